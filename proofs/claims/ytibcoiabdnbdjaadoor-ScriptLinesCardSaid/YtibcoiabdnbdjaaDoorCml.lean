/- The abstract machine, third state, part 21: what the function of a text says of the text; the contract of a function on plain data. No condition. -/
import Derived.Test.YtibcoiabdnbdjaaDoorCmk
namespace Go.Cm
open Go.RowKit
set_option linter.unusedSectionVars false
variable [Sig]

def ResultVar.get (tmps : Array Value) : ResultVar → Sem Value
  | .tmp t => pure (tmps.getD t undef)
  | .cell a t => do loadVar t (← asAddr (tmps.getD a undef))
theorem retV_sound {P : Program} {w : World} {ρ : Env} {nt : Nat} {a : Act} {st : St} (hs : SimB w ρ (bget st.B)) (hf : FrOk w ρ (bget st.B) nt a (lk st.R)) :
    ∀ (rs : List ResultVar) (l : List AV), retV P st rs = some l → ∃ vs, (rs.mapM (ResultVar.get a.tmps)).run P w = .ok vs w ∧ RepL w ρ (bget st.B) vs l
  | [], l, h => by
    simp only [retV, Option.some.injEq] at h
    subst h
    exact ⟨[], by simp, rfl, fun i v t h1 => by simp at h1⟩
  | x :: xs, l, h => by
    simp only [retV] at h
    split at h
    · cases h
    · rename_i r h1
      split at h
      · cases h
      · rename_i l' h2
        injection h with h; subst h
        obtain ⟨vs, e1, e2⟩ := retV_sound hs hf xs l' h2
        have hx : ∃ v, (ResultVar.get a.tmps x).run P w = .ok v w ∧ Rep w ρ (bget st.B) v r := by
          cases x with
          | tmp t =>
            simp only [retV1, Option.some.injEq] at h1
            subst h1
            exact ⟨_, rfl, hf.2 t⟩
          | cell p t =>
            simp only [retV1] at h1
            split at h1
            · rename_i r' e rd hl
              injection h1 with h1; subst h1
              obtain ⟨_, hl⟩ := loadF_run hl trivial
              obtain ⟨ad, v', g1, g2, g3⟩ := hl w ρ _ _ (fun _ _ => rfl) hs (hf.2 p)
              exact ⟨v', by simp only [ResultVar.get, Sem.run_bind, g1, asAddr, Sem.run_pure, Result.andThen_ok, g2], g3⟩
            · cases h1
        obtain ⟨v, g1, g2⟩ := hx
        refine ⟨v :: vs, ?_, RepL.cons g2 e2⟩
        rw [List.mapM_cons]
        simp only [Sem.run_bind, g1, Result.andThen_ok, e1, Sem.run_pure]
theorem results_sound {P : Program} {w : World} {ρ : Env} {nt : Nat} {a : Act} {st : St} {fn : Func} {l : List AV} (hs : SimB w ρ (bget st.B)) (hf : FrOk w ρ (bget st.B) nt a (lk st.R)) (h : retV P st fn.results.toList = some l) :
    ∃ vs, (results fn a.tmps).run P w = .ok (if h : vs.toArray.size = 1 then vs.toArray[0] else .tuple vs.toArray) w ∧ RepL w ρ (bget st.B) vs l := by
  obtain ⟨vs, e1, e2⟩ := retV_sound hs hf _ l h
  refine ⟨vs, ?_, e2⟩
  have hg : results fn a.tmps = (do let vs ← List.toArray <$> fn.results.toList.mapM (ResultVar.get a.tmps); pure (if h : vs.size = 1 then vs[0] else .tuple vs)) := by
    unfold results
    rw [Array.mapM_eq_mapM_toList]
    congr 3
  rw [hg]
  simp only [Sem.run_bind, Sem.run_map, e1, Result.andThen_ok, Sem.run_pure]
theorem oneA_rep {w : World} {ρ : Env} {bx : Nat → Box} {vs : List Value} {l : List AV} (h : RepL w ρ bx vs l) : Rep w ρ bx (if h : vs.toArray.size = 1 then vs.toArray[0] else .tuple vs.toArray) (oneA l) := by
  have hl := h.1
  match vs, l, hl, h with
  | [], [], _, h => exact .tup [] [] rfl (fun i v t h1 => by simp at h1)
  | [v], [t], _, h => exact h.2 0 v t rfl rfl
  | v :: v' :: vs, t :: t' :: l, _, h =>
    have : ¬ (v :: v' :: vs).toArray.size = 1 := by simp
    rw [dif_neg this]
    exact .tup _ _ h.1 h.2

theorem lk_args0 : ∀ (ts : List AV) (n s : Nat), lk (args0 ts n) s = if n ≤ s then (ts[s - n]?).getD .dead else .dead
  | [], n, s => by simp [args0, lk]
  | t :: ts, n, s => by
    simp only [args0, lk]
    by_cases h : n = s
    · subst h; simp
    · rw [if_neg h, lk_args0 ts (n + 1) s]
      by_cases hn : n ≤ s
      · rw [if_pos hn, if_pos (by omega), show s - n = (s - (n + 1)) + 1 by omega]
        simp
      · rw [if_neg hn, if_neg (by omega)]
/-- a function's start -/
theorem sim_start {w : World} {ρ : Env} {bi : Bxs} {vs : List Value} {args : List AV} {nt nb : Nat} (hlim : ∀ j, (bget bi j).made → j < nb) (hs : SimB w ρ (bget bi)) (hr : RepL w ρ (bget bi) vs args) (hnt : args.length ≤ nt) :
    Sim ⟨w, ρ, bget bi, nb, hlim⟩ nt [] ⟨args0 args 0, [], [], bi, nb⟩ { tmps := ⟨vs⟩ ++ Array.replicate (nt - (⟨vs⟩ : Array Value).size) undef, defers := [] } w := by
  have hB : St.B ⟨args0 args 0, [], [], bi, nb⟩ = bi := rfl
  have hR : St.R ⟨args0 args 0, [], [], bi, nb⟩ = args0 args 0 := List.append_nil _
  refine ⟨⟨ρ, by rw [hB]; exact Ext.refl, by rw [hB]; exact hs, ?_, fun s => ?_⟩, rfl, Nat.le_refl _⟩
  · have := hr.1
    simp; omega
  · rw [hB, hR, lk_args0, if_pos (Nat.zero_le _)]
    simp only [Nat.sub_zero]
    cases hsx : args[s]? with
    | none => exact .dead _
    | some t =>
      have hlt : s < vs.length := by rw [hr.1]; exact (List.getElem?_eq_some_iff.1 hsx).1
      have := hr.2 s _ t (List.getElem?_eq_getElem hlt) hsx
      simpa [Array.getElem?_append, hlt] using this

section
variable {cx : Ctx} {e2 : Env2}
theorem inl_ok {n : Nat} (hfns : ∀ g fn, e2.fns g = some fn → cx.P.funcs[g]? = some fn) (ih : ∀ raw f nt path c, RunsOk cx.P nt c (ev cx e2 n raw f nt path c)) (A : Type) :
    InlOk cx.P (A := A) (fun g args bi nb k => match e2.fns g with
      | none => bad 38
      | some fn => match fn.body with
        | none => bad 39
        | some c => match decide (args.length ≤ fn.ntmps) && !(fn.name == "runtime.NumGoroutine") with
          | false => bad 40
          | true => ev cx e2 n false g fn.ntmps [] c A ⟨args0 args 0, [], [], bi, nb⟩ (retK cx.P fn.results.toList k)) := by
  intro g args bi nb k a hlim h
  simp only at h
  split at h
  · cases h
  · rename_i fn hg
    split at h
    · cases h
    · rename_i c hc
      split at h
      · cases h
      · rename_i hchk
        simp only [Bool.and_eq_true, decide_eq_true_eq, Bool.not_eq_true'] at hchk
        obtain ⟨hlen, hname⟩ := hchk
        obtain ⟨x, s', hx, _, hbt, hle, hO⟩ := (ih false g fn.ntmps [] c A _ _ a h).ex
        have hres : x ≠ .nrm → x ≠ .ret → False := fun h1 h2 => by
          cases x with
          | nrm => exact h1 rfl
          | ret => exact h2 rfl
          | ex i => cases hx
          | pan v => cases hx
          | panP t ti => cases hx
        have hx' : ∃ r, retV cx.P s' fn.results.toList = some r ∧ k (oneA r) s'.bx s'.nb = some a := by
          unfold retK at hx
          split at hx
          · cases hx
          · cases hx
          · cases hx
          · split at hx
            · cases hx
            · rename_i r hr; exact ⟨r, hr, hx⟩
        obtain ⟨r, hr, hk⟩ := hx'
        have hBe : s'.bx ++ bi = s'.B := by unfold St.B; rw [hbt]
        refine ⟨oneA r, s'.bx, s'.nb, ⟨⟨fn, hfns g fn hg, by rw [hc]; rfl, hname⟩, fun w ρ vs hs hvs => ?_⟩, hle, hk⟩
        rw [hBe]
        refine calls_of_wp (hfns g fn hg) hc ?_
        refine wp_mono (hO _ _ _ _ (sim_start hlim hs hvs hlen)) fun e a' w' ⟨he, hs'⟩ => ?_
        obtain ⟨⟨ρ', g1, g2, g3⟩, hd, _⟩ := hs'
        obtain ⟨us, u1, u2⟩ := results_sound (fn := fn) g2 g3 hr
        have hfin : a'.defers = [] ∧ ∃ v, (results fn a'.tmps).run cx.P w' = .ok v w' ∧ ∃ v_1 ρ', Ending.returned v = Ending.returned v_1 ∧ Ext w ρ (bget bi) w' ρ' (bget s'.B) ∧ SimB w' ρ' (bget s'.B) ∧ Rep w' ρ' (bget s'.B) v_1 (oneA r) :=
          ⟨hd, _, u1, _, ρ', rfl, g1, g2, oneA_rep u2⟩
        cases x with
        | nrm => subst he; exact hfin
        | ret => subst he; exact hfin
        | ex i => exact (hres (fun h => by cases h) (fun h => by cases h)).elim
        | pan v => exact (hres (fun h => by cases h) (fun h => by cases h)).elim
        | panP t ti => exact (hres (fun h => by cases h) (fun h => by cases h)).elim

theorem ev_sound (hm : POk cx.P) (hΓ : ∀ f F, cx.Γ f = some F → DenF cx.P f F) (hΨ : ∀ f F, cx.Ψ f = some F → DenP cx.P f F) (hfns : ∀ g fn, e2.fns g = some fn → cx.P.funcs[g]? = some fn) :
    ∀ (n : Nat) (raw : Bool) (f nt : Nat) (path : List Nat) (c : Code), RunsOk cx.P nt c (ev cx e2 n raw f nt path c)
  | 0, _, _, _, _, _ => fun A s K a h => by cases h
  | n + 1, raw, f, nt, path, c => fun A s K a h => by
    have ih := ev_sound hm hΓ hΨ hfns n
    have hinl := inlW_ok hm.2 (inl_ok (cx := cx) (e2 := e2) hfns ih A)
    unfold ev at h
    simp only at h
    split at h
    · rename_i hh _
      split at h
      · exact loopN_sound (ih false f nt (0 :: path) _) h
      · exact joinN_sound (ih true f nt path _) h
    · split at h
      · exact ⟨.nrm, s, h, rfl, rfl, Nat.le_refl _, fun S ds a w hs => wp_skip ⟨rfl, hs⟩⟩
      · exact ⟨.nrm, s, h, rfl, rfl, Nat.le_refl _, fun S ds a w hs => wp_label ⟨rfl, hs⟩⟩
      · rename_i id ops
        rcases (evOps_sound hΓ hΨ hinl _ _ _ h).ex with ⟨tr, st', h1, h2, h3, h4, h5⟩ | ⟨pre, o0, post, tr, st', v, rd, h0, h1, hg0, hp0, h2, h3, h4, h5⟩
        · refine ⟨.nrm, st', h2, h3, h4, h5, fun S ds a w hs => wp_region ?_⟩
          rw [List.range_eq_range']
          exact traced_seq ops.toList 0 _ _ tr (fun j => by simp) h1 (fun a w hs => ⟨rfl, hs⟩) (Nat.le_trans hs.nb h5) a w hs.ex hs.defers
        · refine ⟨.pan v, st', h2, h3, h4, h5, fun S ds a w hs => wp_region ?_⟩
          have hsz : ops.size = (pre ++ o0 :: post).length := by rw [← h0]; simp
          rw [List.range_eq_range', hsz]
          exact traced_seq_pan hg0 hp0 pre 0 _ _ tr (fun j => by rw [← h0]; simp) h1 (fun a w hs => ⟨rfl, hs⟩) (Nat.le_trans hs.nb h5) a w hs.ex hs.defers
      · rename_i id ops
        split at h
        · rename_i hsl
          rcases (evOps_sound hΓ hΨ hinl _ _ _ h).ex with ⟨tr, st', h1, h2, h3, h4, h5⟩ | ⟨pre, o0, post, tr, st', v, rd, h0, h1, hg0, hp0, h2, h3, h4, h5⟩
          · split at h2
            · rename_i hbo
              rw [List.append_nil] at hbo
              refine ⟨.nrm, st', h2, h3, h4, h5, fun S ds a w hs => wp_region_any hm.1 ?_⟩
              exact traced_any h1 hsl hbo (Nat.le_trans hs.nb h5) (fun a w hs => ⟨rfl, hs⟩) a w.drew hs.drew
            · cases h2
          · split at h2
            · rename_i hchk
              simp only [List.append_nil, Bool.and_eq_true] at hchk
              obtain ⟨hem, haf⟩ := hchk
              have hsz : ops.size = pre.length + (post.length + 1) := by
                have : ops.toList.length = (pre ++ o0 :: post).length := by rw [h0]
                simpa using this
              refine ⟨.pan v, deadR ops s, h2, rfl, rfl, Nat.le_refl _, fun S ds a w hs => wp_region_any hm.1 ?_⟩
              refine traced_any_pan h0 h1 hg0 hp0 hsl (fun t ht => ?_) (fun j hj hjs => ?_) (fun a w hs => ⟨rfl, hs⟩) a w.drew hs.drew
              · have := List.all_eq_true.1 hem (t.rd, t.e.map (·.1)) (List.mem_reverse.2 (List.mem_map.2 ⟨t, ht, rfl⟩))
                simpa using this
              · have := List.all_eq_true.1 haf j (List.mem_range.2 hjs)
                rw [show ops.size - post.length - 1 = pre.length by omega] at this
                simp only [Bool.or_eq_true, decide_eq_true_eq] at this
                rcases this with h | h
                · omega
                · exact h
            · cases h2
        · cases h
      · rename_i c1 c2
        obtain ⟨x, s1, hx, t1, b1, n1, O1⟩ := (ih false f nt (0 :: path) c1 A s _ a h).ex
        cases x with
        | nrm =>
          obtain ⟨x2, s2, hx2, t2, b2, n2, O2⟩ := (ih false f nt (1 :: path) c2 A s1 _ a hx).ex
          refine ⟨x2, s2, hx2, t2.trans t1, b2.trans b1, Nat.le_trans n1 n2, fun S ds a w hs => wp_seq (wp_mono (O1 S ds a w hs) fun e a' w' ⟨he, hs'⟩ => ?_)⟩
          subst he
          exact O2 S ds a' w' hs'
        | ex i =>
          refine ⟨.ex i, s1, hx, t1, b1, n1, fun S ds a w hs => wp_seq (wp_mono (O1 S ds a w hs) fun e a' w' ⟨he, hs'⟩ => ?_)⟩
          subst he
          exact ⟨rfl, hs'⟩
        | ret =>
          refine ⟨.ret, s1, hx, t1, b1, n1, fun S ds a w hs => wp_seq (wp_mono (O1 S ds a w hs) fun e a' w' ⟨he, hs'⟩ => ?_)⟩
          subst he
          exact ⟨rfl, hs'⟩
        | pan v =>
          refine ⟨.pan v, s1, hx, t1, b1, n1, fun S ds a w hs => wp_seq (wp_mono (O1 S ds a w hs) fun e a' w' ⟨he, hs'⟩ => ?_)⟩
          subst he
          exact ⟨rfl, hs'⟩
        | panP t ti => cases hx
      · rename_i c0 x y
        split at h
        · rename_i t ht
          have hval : ∀ (S : Start) (ds : List Deferred) (a : Act) (w : World), Sim S nt ds s a w → a.eval c0 = .bool t := fun S ds a w hs => by
            obtain ⟨⟨ρ, _, _, h3⟩, _, _⟩ := hs
            have hev := h3.eval c0
            rw [← evA_eq, ht] at hev
            exact hev.inv_lit
          rcases condO_some h with ⟨hb, h⟩ | ⟨hb, h⟩
          · obtain ⟨x', s1, hx, t1, b1, n1, O1⟩ := (ih false f nt (0 :: path) x A s K a h).ex
            exact ⟨x', s1, hx, t1, b1, n1, fun S ds a w hs => wp_cond_split (hval S ds a w hs) (fun _ => O1 S ds a w hs) (fun e => by rw [hb] at e; cases e)⟩
          · obtain ⟨x', s1, hx, t1, b1, n1, O1⟩ := (ih false f nt (1 :: path) y A s K a h).ex
            exact ⟨x', s1, hx, t1, b1, n1, fun S ds a w hs => wp_cond_split (hval S ds a w hs) (fun e => by rw [hb] at e; cases e) (fun _ => O1 S ds a w hs)⟩
        · cases h
      · rename_i id c0
        obtain ⟨x, s1, hx, t1, b1, n1, O1⟩ := (ih false f nt (0 :: path) c0 A s _ a h).ex
        unfold blkK at hx
        split at hx
        · rename_i i
          split at hx
          · rename_i hi
            have hi := of_decide_eq_true hi
            subst hi
            refine ⟨.nrm, s1, hx, t1, b1, n1, fun S ds a w hs => wp_block (wp_mono (O1 S ds a w hs) fun e a' w' ⟨he, hs'⟩ => ?_)⟩
            subst he
            simp only [exOf, Exit.inBlock, if_true]
            exact ⟨trivial, hs'⟩
          · rename_i hi
            have hi := of_decide_eq_false hi
            refine ⟨.ex i, s1, hx, t1, b1, n1, fun S ds a w hs => wp_block (wp_mono (O1 S ds a w hs) fun e a' w' ⟨he, hs'⟩ => ?_)⟩
            subst he
            simp only [exOf, Exit.inBlock, hi, if_false]
            exact ⟨trivial, hs'⟩
        · refine ⟨.nrm, s1, hx, t1, b1, n1, fun S ds a w hs => wp_block (wp_mono (O1 S ds a w hs) fun e a' w' ⟨he, hs'⟩ => ?_)⟩
          subst he
          exact ⟨rfl, hs'⟩
        · refine ⟨.ret, s1, hx, t1, b1, n1, fun S ds a w hs => wp_block (wp_mono (O1 S ds a w hs) fun e a' w' ⟨he, hs'⟩ => ?_)⟩
          subst he
          exact ⟨rfl, hs'⟩
        · rename_i v
          refine ⟨.pan v, s1, hx, t1, b1, n1, fun S ds a w hs => wp_block (wp_mono (O1 S ds a w hs) fun e a' w' ⟨he, hs'⟩ => ?_)⟩
          subst he
          exact ⟨rfl, hs'⟩
        · cases hx
      · exact ⟨_, s, h, rfl, rfl, Nat.le_refl _, fun S ds a w hs => wp_exit ⟨rfl, hs⟩⟩
      · exact ⟨.ret, s, h, rfl, rfl, Nat.le_refl _, fun S ds a w hs => wp_ret ⟨rfl, hs⟩⟩
      · cases h
end
end Go.Cm
