/- The abstract machine, third state, part 24: the library's Clone: a slice is compared with nil. No condition. -/
import Derived.Test.YtibcoiabdnbdjaaDoorCmn
namespace Go.Cm
open Go.RowKit
set_option linter.unusedSectionVars false
variable [Sig]

def clonePat (c : Code) : Option (Code × Nat × Oper × Oper × Code × Code) :=
  match c with
  | .seq R0 (.seq (.seq (.region id ops false) C) T) => match ops.toList with
    | [o1, o2] => some (R0, id, o1, o2, C, T)
    | _ => none
  | _ => none
theorem clonePat_spec {c : Code} {R0 : Code} {id : Nat} {o1 o2 : Oper} {C T : Code} (h : clonePat c = some (R0, id, o1, o2, C, T)) : c = .seq R0 (.seq (.seq (.region id #[o1, o2] false) C) T) := by
  unfold clonePat at h
  split at h
  · rename_i R0' id' ops C' T'
    split at h
    · rename_i a b hops
      simp only [Option.some.injEq, Prod.mk.injEq] at h
      obtain ⟨rfl, rfl, rfl, rfl, rfl, rfl⟩ := h
      have : ops = #[a, b] := by apply Array.ext'; rw [hops]
      rw [this]
    · cases h
  · cases h

theorem run_equal_nil {P : Program} {t e : Nat} (hu : P.underlying t = some (.slice e)) (w : World) (A : Option Addr) (n c : Nat) : (Op.equal t (.slice A n c) (.slice none 0 0)).run P w = .ok A.isNone w := by
  have key : ∀ d, (Op.equalIn (d + 1) t (.slice A n c) (.slice none 0 0)).run P w = .ok A.isNone w := fun d => by
    cases A <;> simp [Op.equalIn, run_underlying hu]
  exact key 9999

theorem exec_eq_nil {P : Program} {o : Oper} {t t' e : Nat} {x y : Operand} (ho : o.op = .binOp .eql t x y t') (hu : P.underlying t = some (.slice e)) {a : Act} {w : World} {A : Option Addr} {n c : Nat} (hx : a.eval x = .slice A n c) (hy : a.eval y = .slice none 0 0) :
    (execOp a.eval o).run P w = .ok (.value (.bool A.isNone)) w := by
  simp [execOp, ho, hx, hy, eqGuard, binOp, run_equal_nil hu]

/-- the comparison, whatever it gives -/
theorem cmp_wp {P : Program} {nt : Nat} {id : Nat} {o1 o2 : Oper} {t t' e : Nat} (h1 : o1.op = .move (.tmp 0)) (h1d : o1.dst = some 3) (h1g : o1.guard = none) (h2 : o2.op = .binOp .eql t (.tmp 3) (.const (.slice none 0 0)) t') (h2d : o2.dst = some 4) (h2g : o2.guard = none)
    (hu : P.underlying t = some (.slice e)) (hnt : 5 ≤ nt) {s : St} {q : Row} (hq : lk s.R 0 = .sl q) (hz : 0 < q.sz) {S : Start} {ds : List Deferred} {a : Act} {w : World} (hs : Sim S nt ds s a w) :
    (Code.region id #[o1, o2] false).wp P (fun ex a' w' => ex = .normal ∧ ∃ b : Bool, (b = true → q.n = 0) ∧ Sim S nt ds ⟨(4, .lit (.bool b)) :: (3, .sl q) :: s.fr, s.tl, s.bx, s.bt, s.nb⟩ a' w') a w := by
  obtain ⟨⟨ρ, g1, g2, g3⟩, hd, hn⟩ := hs
  have hr0 := g3.2 0
  rw [hq] at hr0
  have hsl := hr0.inv_sl
  have hform : ∃ A n c, a.tmps.getD 0 undef = .slice A n c ∧ (A.isNone = true → q.n = 0) := by
    generalize a.tmps.getD 0 undef = v at hsl
    cases hsl with
    | sl A len cap _ f hlen hcap hmax hone hcc hrr =>
      refine ⟨A, len, cap, rfl, fun hA => ?_⟩
      rcases Nat.eq_zero_or_pos q.n with h | h
      · exact h
      · obtain ⟨ad, ha, _⟩ := hcc 0 0 h hz
        rw [ha] at hA; cases hA
  obtain ⟨A, n, c, hv, hA⟩ := hform
  have hw1 : ∀ y, Region.wanted o1 y = true := fun y => by unfold Region.wanted; rw [h1g]
  have hw2 : ∀ y, Region.wanted o2 y = true := fun y => by unfold Region.wanted; rw [h2g]
  have f1 := g3.put (t := .sl q) hr0 (some 3)
  have hx3 : (a.put (some 3) (a.tmps.getD 0 undef)).eval (.tmp 3) = .slice A n c := by
    have := g3.1
    rw [hv]
    simp [Act.put, Act.eval, Array.getElem?_setIfInBounds, show 3 < a.tmps.size by omega]
  have f2 := f1.put (v := .bool A.isNone) (t := .lit (.bool A.isNone)) (.lit _) (some 4)
  have e1 : (execOp a.eval o1).run P w = .ok (.value (a.tmps.getD 0 undef)) w := by simp [execOp, h1, Act.eval]
  have e2 := exec_eq_nil (w := w) h2 hu hx3 rfl
  refine wp_region ?_
  show wpOps P #[o1, o2] _ [0, 1] a w
  rw [wpOps_cons]
  unfold wpOp
  show (if Region.wanted o1 _ = true then _ else _)
  rw [if_pos (hw1 _)]
  left
  show o1.wp P a w _ _
  unfold Oper.wp
  rw [e1]
  show wpOps P #[o1, o2] _ [1] (a.put o1.dst _) w
  rw [h1d]
  rw [wpOps_cons]
  unfold wpOp
  show (if Region.wanted o2 _ = true then _ else _)
  rw [if_pos (hw2 _)]
  left
  show o2.wp P _ w _ _
  unfold Oper.wp
  rw [e2]
  simp only [Oper.upon, wpOps]
  rw [h2d]
  refine ⟨trivial, A.isNone, hA, ⟨ρ, g1, g2, ?_⟩, by rw [put_defers, put_defers]; exact hd, hn⟩
  refine ⟨f2.1, fun t => ?_⟩
  have hl : lk (St.R ⟨(4, .lit (.bool A.isNone)) :: (3, .sl q) :: s.fr, s.tl, s.bx, s.bt, s.nb⟩) = putG nt (putG nt (lk s.R) (some 3) (.sl q)) (some 4) (.lit (.bool A.isNone)) := by
    have a1 := lk_putD nt s.fr s.tl (some 3) (.sl q)
    have a2 := lk_putD nt ((3, .sl q) :: s.fr) s.tl (some 4) (.lit (.bool A.isNone))
    simp only [putD, show (3 : Nat) < nt by omega, show (4 : Nat) < nt by omega, if_true] at a1 a2
    show lk (((4, AV.lit (.bool A.isNone)) :: (3, AV.sl q) :: s.fr) ++ s.tl) = _
    rw [a2, a1]
    rfl
  rw [hl]
  exact f2.2 t

/-- the library's Clone -/
theorem clone_den {cx : Ctx} {e2 : Env2} (hm : POk cx.P) (hΓ : ∀ f F, cx.Γ f = some F → DenF cx.P f F) (hΨ : ∀ f F, cx.Ψ f = some F → DenP cx.P f F) (hfns : ∀ g fn, e2.fns g = some fn → cx.P.funcs[g]? = some fn)
    {f : FuncId} {fn : Func} (hf : cx.P.funcs[f]? = some fn) {c : Code} (hb : fn.body = some c) (hname : (fn.name == "runtime.NumGoroutine") = false) {R0 : Code} {id : Nat} {o1 o2 : Oper} {C T : Code} (hp : clonePat c = some (R0, id, o1, o2, C, T))
    {t t' e : Nat} (h1 : o1.op = .move (.tmp 0)) (h1d : o1.dst = some 3) (h1g : o1.guard = none) (h2 : o2.op = .binOp .eql t (.tmp 3) (.const (.slice none 0 0)) t') (h2d : o2.dst = some 4) (h2g : o2.guard = none)
    (hu : cx.P.underlying t = some (.slice e)) (hnt : 5 ≤ fn.ntmps) {tl : Sig.TI} (hag : Sig.isAgg tl = false) {own : List (List (Option TypeId))} {F : Sig.Car tl → Option (Sig.Car tl)} (s1 : Row → St)
    (hrow : ∀ cs : List Tree, fits (Sig.shp tl) cs = true → ∃ q, cs = [.sl q] ∧ 0 < q.sz)
    (hev0 : ∀ q, ev cx e2 100 false f fn.ntmps [] R0 (Ex × St) ⟨[(0, .sl q)], [], [], [], 0⟩ (fun x s => some (x, s)) = some (.nrm, s1 q)) (hs1 : ∀ q, lk (s1 q).R 0 = .sl q)
    (hev : ∀ (x : Sig.Car tl) (q : Row) (b : Bool) (r : Sig.Car tl), Sig.enc tl x = [.sl q] → F x = some r → (b = true → q.n = 0) →
      ev cx e2 100 false f fn.ntmps [] C (Ress [tl]) ⟨(4, .lit (.bool b)) :: (3, .sl q) :: (s1 q).fr, (s1 q).tl, (s1 q).bx, (s1 q).bt, (s1 q).nb⟩ (seqK (fun s => ev cx e2 100 false f fn.ntmps [] T (Ress [tl]) s (finK cx.P [tl] own fn.results.toList)) (finK cx.P [tl] own fn.results.toList)) = some r) :
    DenF cx.P f ⟨[tl], [tl], own, F⟩ := by
  have hcan : Callable cx.P f := ⟨fn, hf, by rw [hb]; rfl, hname⟩
  have hc := clonePat_spec hp
  refine ⟨hcan, fun cs r hr n => ⟨hcan, fun w ρ vs hs hvs => ?_⟩⟩
  -- the argument
  have hcs : ∃ q, cs = [[.sl q]] ∧ 0 < q.sz ∧ ∃ x : Sig.Car tl, Sig.enc tl x = [.sl q] ∧ F x = some r := by
    match cs, hr with
    | [], hr => cases hr
    | [c0], hr =>
      simp only [apF] at hr
      split at hr
      · rename_i hfit
        obtain ⟨q, rfl, hz⟩ := hrow c0 hfit
        refine ⟨q, rfl, hz, Sig.dec tl [.sl q], Sig.enc_dec _ _ hfit, ?_⟩
        injection hr
      · cases hr
    | c0 :: c1 :: cs, hr =>
      simp only [apF] at hr
      split at hr <;> cases hr
  obtain ⟨q, rfl, hz, x, hx, hF⟩ := hcs
  have harg : argA [tl] [[.sl q]] = [.sl q] := by simp [argA, avT, hag, ofTree]
  simp only at hvs
  rw [harg] at hvs
  have hlim : ∀ j, (bget ([] : Bxs) j).made → j < 0 := fun j hj => hj.elim
  have hnil : bget ([] : Bxs) = nilB := rfl
  have hsim := sim_start (ρ := ρ) (bi := []) (nb := 0) (nt := fn.ntmps) hlim (by rw [hnil]; exact hs) (by rw [hnil]; exact hvs) (by simp; omega)
  obtain ⟨x0, s0, hx0, ht0, hb0, hn0, O0⟩ := (ev_sound hm hΓ hΨ hfns 100 false f fn.ntmps [] R0 (Ex × St) _ _ _ (hev0 q)).ex
  injection hx0 with hx0
  injection hx0 with ex0 es0
  subst ex0; subst es0
  refine calls_of_wp hf hb ?_
  rw [hc]
  refine wp_seq (wp_mono (O0 _ _ _ _ hsim) fun ex a' w' ⟨he, hs'⟩ => ?_)
  subst he
  refine wp_seq ?_
  refine wp_seq (wp_mono (cmp_wp (t := t) (t' := t') (e := e) h1 h1d h1g h2 h2d h2g hu hnt (hs1 q) hz hs') fun ex a2 w2 ⟨he, b, hbq, hs2⟩ => ?_)
  subst he
  have hevb := hev x q b r hx hF hbq
  obtain ⟨x3, s3, hx3, ht3, hb3, hn3, O3⟩ := (ev_sound hm hΓ hΨ hfns 100 false f fn.ntmps [] C (Ress [tl]) _ _ _ hevb).ex
  -- the end of the function
  have fin : ∀ (x4 : Ex) (s4 : St) (a4 : Act) (w4 : World), finK cx.P [tl] own fn.results.toList x4 s4 = some r → Sim ⟨w, ρ, bget ([] : Bxs), 0, hlim⟩ fn.ntmps [] s4 a4 w4 →
      (x4 = .nrm ∨ x4 = .ret) ∧ (a4.defers = [] ∧ ∃ v, (results fn a4.tmps).run cx.P w4 = .ok v w4 ∧ ∃ v_1 ρ', Ending.returned v = Ending.returned v_1 ∧ Ext w ρ nilB w4 ρ' (appE nilB (resL [tl] own (encR [tl] r) n).2) ∧ SimB w4 ρ' (appE nilB (resL [tl] own (encR [tl] r) n).2) ∧ Rep w4 ρ' (appE nilB (resL [tl] own (encR [tl] r) n).2) v_1 (oneA (resL [tl] own (encR [tl] r) n).1)) :=
    fun x4 s4 a4 w4 hk hs4 => fin_end hk hs4
  refine wp_mono (O3 _ _ _ _ hs2) fun ex a3 w3 ⟨he3, hs3⟩ => ?_
  subst he3
  cases x3 with
  | nrm =>
    obtain ⟨x4, s4, hx4, ht4, hb4, hn4, O4⟩ := (ev_sound hm hΓ hΨ hfns 100 false f fn.ntmps [] T (Ress [tl]) _ _ _ hx3).ex
    refine wp_mono (O4 _ _ _ _ hs3) fun ex a4 w4 ⟨he4, hs4⟩ => ?_
    subst he4
    obtain ⟨hxx, hfin⟩ := fin x4 s4 a4 w4 hx4 hs4
    rcases hxx with rfl | rfl <;> exact hfin
  | ret => exact (fin .ret s3 a3 w3 hx3 hs3).2
  | ex i => cases hx3
  | pan v => cases hx3
  | panP t ti => cases hx3
end Go.Cm
