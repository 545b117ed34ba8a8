/- The abstract machine, third state: a region in which an operation panics. No condition. -/
import Derived.Test.YtibcoiabdnbdjaaDoorCmy
namespace Go.Cm
open Go.RowKit
set_option linter.unusedSectionVars false
set_option linter.unusedVariables false
variable [Sig]
/-- the registers of a region are not known any more -/
def deadR (ops : Array Oper) (st : St) : St := ⟨(ops.toList.filterMap (·.dst)).map (fun d => (d, AV.dead)) ++ st.fr, st.tl, st.bx, st.bt, st.nb⟩
theorem lk_deads (l : List (Nat × AV)) (t : Nat) : ∀ ds : List Nat, lk (ds.map (fun d => (d, AV.dead)) ++ l) t = if t ∈ ds then .dead else lk l t
  | [] => by simp
  | d :: ds => by
    simp only [List.map_cons, List.cons_append, lk, lk_deads l t ds]
    by_cases h : d = t
    · subst h; simp
    · have h' : t ≠ d := fun e => h e.symm
      simp [h, h', List.mem_cons]
theorem lk_deadR (ops : Array Oper) (st : St) (t : Nat) : lk (deadR ops st).R t = if t ∈ ops.toList.filterMap (·.dst) then .dead else lk st.R t := by
  show lk (((ops.toList.filterMap (·.dst)).map (fun d => (d, AV.dead)) ++ st.fr) ++ st.tl) t = _
  rw [List.append_assoc, lk_deads]
  rfl
theorem traced_seq_pan {P : Program} {nt : Nat} {ops : Array Oper} {S : Start} {ds : List Deferred} {Q : Exit → Act → World → Prop} {st' : St} {o0 : Oper} {post : List Oper} {v0 : Value} {rd0 : List Nat} (hg0 : gOk ops o0 (lk st'.R) true) (hp0 : PanOk P o0 (evG (lk st'.R)) st'.B v0 rd0) :
    ∀ (os : List Oper) (i : Nat) (g : Nat → AV) (bx : Bxs) (tr : List TrE), (∀ j, (os ++ o0 :: post)[j]? = ops[i + j]?) → Traced P nt ops os g bx tr (lk st'.R) st'.B → (∀ a w, Sim S nt ds st' a w → Q (.panic (panE v0)) a w) →
    S.n ≤ st'.nb → ∀ a w, (∃ ρ, Ext S.w S.ρ S.b w ρ (bget bx) ∧ SimB w ρ (bget bx) ∧ FrOk w ρ (bget bx) nt a g) → a.defers = ds → wpOps P ops Q (List.range' i (os ++ o0 :: post).length) a w
  | [], i, g, bx, tr, hops, h, hq, hnb, a, w, hs, hd => by
    obtain ⟨_, rfl, rfl⟩ := h
    obtain ⟨ρ, hx0, hsb, hfr⟩ := hs
    have ho : ops[i]? = some o0 := by have := hops 0; simpa using this.symm
    rw [List.nil_append, List.length_cons, List.range'_succ, wpOps_cons]
    unfold wpOp
    rw [ho]
    simp only
    rw [gOk_wanted hg0 hfr, if_pos rfl]
    left
    refine hp0 w ρ _ a _ _ (fun _ _ => rfl) hsb (fun x _ => hfr.eval x) fun w' hb => ?_
    exact hq a w' ⟨⟨ρ, hx0.trans (Ext.world hb), hsb.world hb, hfr.ext (Ext.world hb)⟩, hd, hnb⟩
  | o :: os, i, g, bx, tr, hops, h, hq, hnb, a, w, hs, hdef => by
    obtain ⟨t, tr', rfl, ⟨hg, hrun, hskip, hnew⟩, h⟩ := h
    obtain ⟨ρ, hx0, hsb, hfr⟩ := hs
    have ho : ops[i]? = some o := by have := hops 0; simpa using this.symm
    have hops' : ∀ j, (os ++ o0 :: post)[j]? = ops[i + 1 + j]? := fun j => by have := hops (j + 1); rw [show i + 1 + j = i + (j + 1) by omega]; simpa using this
    rw [List.cons_append, List.length_cons, List.range'_succ, wpOps_cons]
    unfold wpOp
    rw [ho]
    simp only
    rw [gOk_wanted hg hfr]
    cases hr : t.run with
    | true =>
      rw [if_pos rfl]
      left
      refine hrun hr w ρ (bget bx) a _ _ (fun _ _ => rfl) (fun k b hb => hnew k b hb) hsb (fun x _ => hfr.eval x) fun v' w' ρ' he hs' hv => ?_
      refine traced_seq_pan hg0 hp0 os (i + 1) _ _ tr' hops' h hq hnb _ _ ⟨ρ', ?_, ?_, ?_⟩ (by rw [put_defers]; exact hdef)
      · rw [bget_appL]; exact hx0.trans he
      · rw [bget_appL]; exact hs'
      · rw [bget_appL]; exact (hfr.ext he).put hv o.dst
    | false =>
      rw [if_neg (by simp)]
      obtain ⟨e1, e2, e3⟩ := hskip hr
      refine traced_seq_pan hg0 hp0 os (i + 1) _ _ tr' hops' h hq hnb _ _ ⟨ρ, ?_, ?_, ?_⟩ (by rw [put_defers]; exact hdef)
      · rw [bget_appL, e2]; exact hx0
      · rw [bget_appL, e2]; exact hsb
      · rw [bget_appL, e1, e2]; exact hfr.put (.lit _) o.dst
/-- the rule for every order, if an operation panics: those ahead of it change no box, those behind it wait for it -/
theorem traced_any_pan {P : Program} {nt : Nat} {ops : Array Oper} {S : Start} {ds : List Deferred} {Q : Exit → Act → World → Prop} {st st1 : St} {tr : List TrE} {pre post : List Oper} {o0 : Oper} {v0 : Value} {rd0 : List Nat}
    (hops : ops.toList = pre ++ o0 :: post) (htr : Traced P nt ops pre (lk st.R) st.B tr (lk st1.R) st1.B) (hg0 : gOk ops o0 (lk st1.R) true) (hp0 : PanOk P o0 (evG (lk st1.R)) st1.B v0 rd0) (hsl : slotsOk ops = true) (hem : ∀ t, t ∈ tr → t.e = [])
    (haf : ∀ j, pre.length < j → j < ops.size → ((Region.before ops).getD j 0).testBit pre.length = true) (hq : ∀ a w, Sim S nt ds (deadR ops st) a w → Q (.panic (panE v0)) a w) :
    ∀ a w, Sim S nt ds st a w → wpAny P .any ops Q ops.size (Array.replicate ops.size false) a w := by
  obtain ⟨hlen, hend, hendb, hloc⟩ := traced_at _ _ _ _ _ _ htr
  have hsize : ops.size = pre.length + (post.length + 1) := by
    have : ops.toList.length = (pre ++ o0 :: post).length := by rw [hops]
    simpa using this
  generalize hm : pre.length = m at *
  -- the parts of the trace as functions
  let op : Nat → Oper := fun i => ops.getD i default
  let te : Nat → TrE := fun i => tr.getD i ⟨false, .dead, [], []⟩
  let dst : Nat → Option Nat := fun i => (op i).dst
  let vv : Nat → AV := fun i => (te i).v
  let ee : Nat → List (Nat × Box) := fun i => (te i).e
  let g0 := lk st.R
  let b0 := bget st.B
  have hop : ∀ i, i < ops.size → ops[i]? = some (op i) := fun i hi => by simp [op, hi]
  have hopl : ∀ i, i < ops.size → ops.toList[i]? = some (op i) := fun i hi => by simp [op, hi]
  have hpre : ∀ i, i < m → pre[i]? = some (op i) := fun i hi => by
    have h1 := hopl i (by omega)
    rw [hops, List.getElem?_append_left (by omega)] at h1
    exact h1
  have hop0 : op m = o0 := by
    have h1 := hopl m (by omega)
    rw [hops, List.getElem?_append_right (by omega), hm, Nat.sub_self] at h1
    exact (Option.some.inj h1).symm
  have hte : ∀ i, i < m → tr[i]? = some (te i) := fun i hi => by
    have : i < tr.length := by omega
    simp [te, List.getD, List.getElem?_eq_getElem this]
  have hee : ∀ i, ee i = [] := fun i => by
    show (tr.getD i ⟨false, .dead, [], []⟩).e = []
    by_cases hi : i < tr.length
    · have : tr.getD i ⟨false, .dead, [], []⟩ = tr[i] := by simp [List.getD, List.getElem?_eq_getElem hi]
      rw [this]
      exact hem _ (List.getElem_mem hi)
    · simp [List.getD, List.getElem?_eq_none (Nat.le_of_not_lt hi)]
  have hbR : ∀ (D : Nat → Bool) n, bRun ee b0 D n = b0 := fun D n => by
    induction n with
    | zero => rfl
    | succ n ih =>
      simp only [bRun, ih, hee]
      split <;> rfl
  -- the state in the order of the text
  have htext : ∀ i, i ≤ m → gAt nt pre tr (lk st.R) i = gRun nt dst vv g0 (fun j => decide (j < i)) i ∧ bget (bAt tr st.B i) = bRun ee b0 (fun j => decide (j < i)) i := by
    intro i
    induction i with
    | zero => intro _; exact ⟨rfl, rfl⟩
    | succ i ih =>
      intro hi
      obtain ⟨i1, i2⟩ := ih (by omega)
      have hst : gAt nt pre tr (lk st.R) (i + 1) = putG nt (gAt nt pre tr (lk st.R) i) (op i).dst (te i).v := by
        rw [gAt, hpre i (by omega), hte i (by omega)]
      have hstb : bAt tr st.B (i + 1) = appL (bAt tr st.B i) (te i).e := by
        rw [bAt, hte i (by omega)]
      rw [hst, hstb, bget_appL, i1, i2]
      constructor
      · funext s
        rw [show gRun nt dst vv g0 (fun j => decide (j < i + 1)) (i + 1) = putG nt (gRun nt dst vv g0 (fun j => decide (j < i + 1)) i) (dst i) (vv i) from by simp [gRun]]
        exact putG_same _ (gRun_congr i fun j hj _ => by simp; omega) _
      · funext k
        rw [show bRun ee b0 (fun j => decide (j < i + 1)) (i + 1) = appE (bRun ee b0 (fun j => decide (j < i + 1)) i) (ee i) from by simp [bRun]]
        exact appE_same _ _ _ _ (bRun_congr i fun j hj _ => by simp; omega)
  -- conflicts are ordered
  have hsl' : ∀ j, j < ops.size → (∀ ed, ed ∈ (op j).after → Region.binds .any ed = true → ed.on < j) ∧ ∀ i, i < j → slotConf ops (op i) (op j) = true → ((Region.before ops).getD j 0).testBit i = true := by
    intro j hj
    unfold slotsOk at hsl
    have h1 := List.all_eq_true.1 hsl j (List.mem_range.2 hj)
    simp only [Bool.and_eq_true] at h1
    refine ⟨fun ed he hb => ?_, fun i hi hc => ?_⟩
    · have := Array.all_eq_true_iff_forall_mem.1 h1.1 ed he
      simpa [hb] using this
    · have h2 := List.all_eq_true.1 h1.2 i (List.mem_range.2 hi)
      simp only [Bool.or_eq_true, Bool.not_eq_true'] at h2
      rcases h2 with h2 | h2
      · exact h2
      · rw [show slotConf ops (ops.getD i default) (ops.getD j default) = slotConf ops (op i) (op j) from rfl, hc] at h2; cases h2
  -- the invariant
  intro aS wS hsS
  have hnb := hsS.nb
  revert aS wS
  intro aS wS hsS
  suffices H : ∀ (fuel : Nat) (listed : Array Bool) (a : Act) (w : World), listed.size = ops.size → ((List.range ops.size).filter fun i => !listed.getD i true).length ≤ fuel →
      Closed ops (fun j => listed.getD j false) → (∀ j, m ≤ j → listed.getD j false = false) → a.defers = ds →
      (∃ ρ, Ext S.w S.ρ S.b w ρ (bRun ee b0 (fun j => listed.getD j false) ops.size) ∧ SimB w ρ (bRun ee b0 (fun j => listed.getD j false) ops.size) ∧ FrOk w ρ (bRun ee b0 (fun j => listed.getD j false) ops.size) nt a (gRun nt dst vv g0 (fun j => listed.getD j false) ops.size)) →
      wpAny P .any ops Q fuel listed a w by
    obtain ⟨⟨ρ, h1, h2, h3⟩, h4, h5⟩ := hsS
    have hfalse : ∀ j, (Array.replicate ops.size false).getD j false = false := fun j => by
      rw [Array.getD_eq_getD_getElem?, Array.getElem?_replicate]; split <;> rfl
    have hD : (fun j => (Array.replicate ops.size false).getD j false) = fun _ => false := funext hfalse
    refine H ops.size _ aS wS (by simp) ?_ (fun j o _ hj => by have hj' : (Array.replicate ops.size false).getD j false = true := hj; rw [hfalse] at hj'; cases hj') (fun j _ => hfalse j) h4 ?_
    · exact Nat.le_trans (List.length_filter_le _ _) (by simp)
    · rw [hD]
      have e1 : ∀ m, gRun nt dst vv g0 (fun _ => false) m = g0 := fun m => by induction m with | zero => rfl | succ m ih => simpa [gRun] using ih
      have e2 : ∀ m, bRun ee b0 (fun _ => false) m = b0 := fun m => by induction m with | zero => rfl | succ m ih => simpa [bRun] using ih
      rw [e1, e2]
      exact ⟨ρ, h1, h2, h3⟩
  intro fuel
  have nodone : ∀ (listed : Array Bool), listed.size = ops.size → (∀ j, m ≤ j → listed.getD j false = false) → Region.ready .any ops listed ≠ [] := by
    intro listed hsz hno hr
    have hall : ∀ i, i ≤ m → listed.getD i false = true := by
      intro i
      induction i using Nat.strongRecOn with
      | _ i ih =>
        intro hi
        cases hl : listed.getD i false with
        | true => rfl
        | false =>
          exfalso
          have hmem : i ∈ Region.ready .any ops listed := by
            rw [mem_ready]
            have hi' : i < listed.size := by omega
            refine ⟨?_, op i, hop i (by omega), fun ed he hbd => ih ed.on ((hsl' i (by omega)).1 ed he hbd) (by have := (hsl' i (by omega)).1 ed he hbd; omega)⟩
            simpa [hi'] using hl
          rw [hr] at hmem
          cases hmem
    have := hno m (Nat.le_refl _)
    rw [hall m (Nat.le_refl _)] at this
    cases this
  induction fuel with
  | zero =>
    intro listed a w hsz hcnt _ hno hd hsim
    have hnil : (List.range ops.size).filter (fun i => !listed.getD i true) = [] := List.eq_nil_of_length_eq_zero (by omega)
    exfalso
    have hm1 : m ∈ (List.range ops.size).filter (fun i => !listed.getD i true) := by
      rw [List.mem_filter, List.mem_range]
      have h0 := hno m (Nat.le_refl _)
      have hi' : m < listed.size := by omega
      refine ⟨by omega, ?_⟩
      have : listed.getD m true = false := by simpa [hi'] using h0
      rw [this]; rfl
    rw [hnil] at hm1
    cases hm1
  | succ fuel ih =>
    intro listed a w hsz hcnt hcl hno hd hsim
    refine ⟨fun hr => absurd hr (nodone listed hsz hno), fun i hi => ?_⟩
    obtain ⟨h1, o, h2, h3⟩ := mem_ready.1 hi
    have hin : i < ops.size := (Array.getElem?_eq_some_iff.1 h2).1
    have hoi : o = op i := by rw [hop i hin] at h2; exact (Option.some.inj h2).symm
    subst hoi
    have hDi : listed.getD i false = false := by
      have hi' : i < listed.size := by omega
      simpa [hi'] using h1
    -- which of the others have come up
    have him : i ≤ m := by
      apply Decidable.byContradiction
      intro hgt
      have h0 := hcl.ready h2 h3 m (haf i (by omega) hin)
      have h0' : listed.getD m false = true := h0
      rw [hno m (Nat.le_refl _)] at h0'
      cases h0'
    have hbefore : ∀ j, ((Region.before ops).getD i 0).testBit j = true → listed.getD j false = true := hcl.ready h2 h3
    have hafter : ∀ j, ((Region.before ops).getD j 0).testBit i = true → listed.getD j false = false := fun j hj => by
      cases hl : listed.getD j false with
      | false => rfl
      | true => have := hcl.anc j i hj hl; rw [hDi] at this; cases this
    have hslot : ∀ s, s ∈ (op i).looksAt ops ∨ dst i = some s → ∀ j, j < ops.size → dst j = some s → listed.getD j false = decide (j < i) := by
      intro s hs j hj hdj
      by_cases hji : j = i
      · subst hji; rw [hDi]; simp
      · have hm : s ∈ dstL (op j) := by unfold dstL; rw [show (op j).dst = some s from hdj]; simp
        rcases Nat.lt_or_gt_of_ne hji with hlt | hgt
        · have hc : slotConf ops (op j) (op i) = true := by
            unfold slotConf
            rcases hs with hs | hs
            · rw [show inter (dstL (op j)) ((op i).looksAt ops) = true from inter_mem hm hs]; simp
            · rw [show inter (dstL (op j)) (dstL (op i)) = true from inter_mem hm (by unfold dstL; rw [show (op i).dst = some s from hs]; simp)]; simp
          rw [hbefore j ((hsl' i hin).2 j hlt hc)]
          simp [hlt]
        · have hc : slotConf ops (op i) (op j) = true := by
            unfold slotConf
            rcases hs with hs | hs
            · rw [show inter (dstL (op j)) ((op i).looksAt ops) = true from inter_mem hm hs]; simp
            · rw [show inter (dstL (op i)) (dstL (op j)) = true from inter_mem (by unfold dstL; rw [show (op i).dst = some s from hs]; simp) hm]; simp
          rw [hafter j ((hsl' j hj).2 i hgt hc)]
          simp; omega
    -- the state that the operation meets is that of the text
    have hgi : ∀ s, s ∈ (op i).looksAt ops ∨ dst i = some s → gRun nt dst vv g0 (fun j => listed.getD j false) ops.size s = gAt nt pre tr (lk st.R) i s := by
      intro s hs
      rw [(htext i him).1, gRun_congr (D' := fun j => decide (j < i)) _ fun j hj hdj => hslot s hs j hj hdj]
      exact gRun_last _ (by omega) fun j h1 _ _ => by simp; omega
    have hev0 : ∀ (hfr : ∃ ρ, FrOk w ρ b0 nt a (gRun nt dst vv g0 (fun j => listed.getD j false) ops.size)) (x : Operand), x ∈ (op i).op.operands → evG (gAt nt pre tr (lk st.R) i) x = evG (gRun nt dst vv g0 (fun j => listed.getD j false) ops.size) x := fun _ x hx => by
      cases x with
      | tmp t => exact (hgi t (.inl (looks_operand hx))).symm
      | const => rfl
      | global => rfl
      | func => rfl
    obtain ⟨ρ, hx0, hsb, hfr⟩ := hsim
    rw [hbR] at hx0 hsb hfr
    by_cases hie : i = m
    · -- it panics
      subst hie
      have hg1 : gAt nt pre tr (lk st.R) i = lk st1.R := by rw [hend]
      have hgok : gOk ops (op i) (gRun nt dst vv g0 (fun j => listed.getD j false) ops.size) true := by
        rw [hop0]
        unfold gOk at hg0 ⊢
        cases hgu : o0.guard with
        | none => rfl
        | some p =>
          obtain ⟨j, want⟩ := p
          rw [hgu] at hg0
          simp only at hg0 ⊢
          obtain ⟨s, hs, hrest⟩ := hg0
          refine ⟨s, hs, ?_⟩
          rw [hgi s (.inl (by rw [hop0]; exact looks_guard hgu hs)), hg1]
          exact hrest
      unfold wpOp
      rw [h2]
      simp only
      rw [gOk_wanted hgok hfr, if_pos rfl]
      left
      rw [hop0]
      have hb1 : bget st1.B = b0 := by
        rw [hendb, (htext i (Nat.le_refl _)).2, hbR]
      refine hp0 w ρ b0 a _ _ (fun k _ => by rw [hb1]) hsb (fun x hx => ?_) fun w' hb => ?_
      · have e1 := hev0 ⟨ρ, hfr⟩ x (by rw [hop0]; exact hx)
        rw [hg1] at e1
        rw [e1]
        exact hfr.eval x
      · have hS : S.n ≤ (deadR ops st).nb := hnb
        refine hq a w' ⟨⟨ρ, hx0.trans (Ext.world hb), hsb.world hb, ?_⟩, hd, hS⟩
        have hfr' := hfr.ext (Ext.world hb)
        refine ⟨hfr'.1, fun t => ?_⟩
        rw [lk_deadR]
        split
        · exact .dead _
        · rename_i hnt
          have := hfr'.2 t
          have e : gRun nt dst vv g0 (fun j => listed.getD j false) ops.size t = g0 t := by
            rw [gRun_congr (D' := fun _ => false) _ fun j hj hdj => absurd (List.mem_filterMap.2 ⟨op j, List.mem_of_getElem? (hopl j hj), hdj⟩) hnt]
            have e1 : ∀ n, gRun nt dst vv g0 (fun _ => false) n = g0 := fun n => by induction n with | zero => rfl | succ n ih => simpa [gRun] using ih
            rw [e1]
          rw [e] at this
          exact this
    have him' : i < m := by omega
    -- and the state behind it
    have hset : ∀ j, (listed.setIfInBounds i true).getD j false = if j = i then true else listed.getD j false := fun j => by
      by_cases hji : j = i
      · subst hji
        have hi' : j < listed.size := by omega
        simp [hi']
      · rw [if_neg hji, getD_set_ne false (Ne.symm hji)]
    have hgn : gRun nt dst vv g0 (fun j => (listed.setIfInBounds i true).getD j false) ops.size = putG nt (gRun nt dst vv g0 (fun j => listed.getD j false) ops.size) (dst i) (vv i) := by
      funext s
      by_cases hs : dst i = some s
      · have l1 : gRun nt dst vv g0 (fun j => (listed.setIfInBounds i true).getD j false) ops.size s = gRun nt dst vv g0 (fun j => (listed.setIfInBounds i true).getD j false) (i + 1) s :=
          gRun_last _ (by omega) fun j h1 h2 h3 => by
            rw [hset, if_neg (by omega), hslot s (.inr hs) j h2 h3]; simp; omega
        have l2 : gRun nt dst vv g0 (fun j => listed.getD j false) ops.size s = gRun nt dst vv g0 (fun j => listed.getD j false) i s :=
          gRun_last _ (by omega) fun j h1 h2 h3 => by
            rw [hslot s (.inr hs) j h2 h3]; simp; omega
        rw [l1]
        have hi1 : (listed.setIfInBounds i true).getD i false = true := by rw [hset, if_pos rfl]
        rw [show gRun nt dst vv g0 (fun j => (listed.setIfInBounds i true).getD j false) (i + 1) = putG nt (gRun nt dst vv g0 (fun j => (listed.setIfInBounds i true).getD j false) i) (dst i) (vv i) from if_pos hi1]
        refine putG_same _ ?_ _
        rw [l2]
        exact gRun_congr i fun j hj _ => by rw [hset, if_neg (by omega)]
      · rw [putG_other hs]
        exact gRun_congr _ fun j hj hdj => by
          rw [hset]
          by_cases hji : j = i
          · subst hji; exact absurd hdj hs
          · rw [if_neg hji]
    have hcl' : Closed ops (fun j => (listed.setIfInBounds i true).getD j false) := by
      intro j o ho hj ed he hbd
      have hj : (listed.setIfInBounds i true).getD j false = true := hj
      show (listed.setIfInBounds i true).getD ed.on false = true
      rw [hset] at hj ⊢
      by_cases hei : ed.on = i
      · rw [if_pos hei]
      · rw [if_neg hei]
        by_cases hji : j = i
        · subst hji
          rw [hop j hin] at ho
          injection ho with ho
          subst ho
          exact h3 ed he hbd
        · rw [if_neg hji] at hj
          exact hcl j o ho hj ed he hbd
    have hcnt' : ((List.range ops.size).filter fun j => !(listed.setIfInBounds i true).getD j true).length ≤ fuel := by
      have hlt : ((List.range ops.size).filter fun j => !(listed.setIfInBounds i true).getD j true).length < ((List.range ops.size).filter fun j => !listed.getD j true).length := by
        rw [← List.countP_eq_length_filter, ← List.countP_eq_length_filter]
        have hsub : ∀ (l : List Nat), i ∈ l → (∀ x, x ∈ l → True) → l.countP (fun j => !(listed.setIfInBounds i true).getD j true) < l.countP (fun j => !listed.getD j true) := by
          intro l
          have hle : ∀ l : List Nat, l.countP (fun j => !(listed.setIfInBounds i true).getD j true) ≤ l.countP (fun j => !listed.getD j true) := fun l => by
            apply List.countP_mono_left
            intro x _ hx
            by_cases hxi : i = x
            · subst hxi
              have hi' : i < listed.size := by omega
              simp [hi'] at hx
            · rw [getD_set_ne true hxi] at hx; exact hx
          induction l with
          | nil => intro h; cases h
          | cons x l ihl =>
            intro hm _
            rw [List.countP_cons, List.countP_cons]
            by_cases hxi : i = x
            · subst hxi
              have hi' : i < listed.size := by omega
              have e1 : (!(listed.setIfInBounds i true).getD i true) = false := by simp [hi']
              have e2 : (!listed.getD i true) = true := by rw [h1]; rfl
              rw [e1, e2]
              have := hle l
              rw [if_neg (by simp), if_pos rfl]
              omega
            · have hm' : i ∈ l := by
                rcases List.mem_cons.1 hm with h | h
                · exact absurd h hxi
                · exact h
              have := ihl hm' fun _ _ => trivial
              rw [getD_set_ne true hxi]
              omega
        exact hsub _ (List.mem_range.2 hin) fun _ _ => trivial
      omega
    have hno' : ∀ j, m ≤ j → (listed.setIfInBounds i true).getD j false = false := fun j hj => by
      rw [hset, if_neg (by omega)]
      exact hno j hj
    have hL := hloc i (op i) (te i) (hpre i him') (hte i him')
    obtain ⟨hg, hrun, hskip, hnew⟩ := hL
    have hei : (te i).e = [] := hee i
    have hbi : bget (bAt tr st.B i) = b0 := by rw [(htext i him).2, hbR]
    have hgok : gOk ops (op i) (gRun nt dst vv g0 (fun j => listed.getD j false) ops.size) (te i).run := by
      unfold gOk at hg ⊢
      cases hgu : (op i).guard with
      | none => rw [hgu] at hg; exact hg
      | some p =>
        obtain ⟨j, want⟩ := p
        rw [hgu] at hg
        simp only at hg ⊢
        obtain ⟨s, hs, hrest⟩ := hg
        refine ⟨s, hs, ?_⟩
        rw [hgi s (.inl (looks_guard hgu hs))]
        exact hrest
    unfold wpOp
    rw [h2]
    simp only
    rw [gOk_wanted hgok hfr]
    cases hr : (te i).run with
    | true =>
      rw [if_pos rfl]
      left
      refine hrun hr w ρ b0 a _ _ (fun k _ => by rw [hbi]) (fun k b hb => ?_) hsb (fun x hx => ?_) fun v' w' ρ' he hs' hv => ?_
      · rw [hei] at hb; cases hb
      · rw [hev0 ⟨ρ, hfr⟩ x hx]
        exact hfr.eval x
      · rw [hei] at he hs' hv
        refine ih _ _ _ (by simpa using hsz) hcnt' hcl' hno' (by rw [put_defers]; exact hd) ⟨ρ', ?_, ?_, ?_⟩
        · rw [hbR]; exact hx0.trans he
        · rw [hbR]; exact hs'
        · rw [hgn, hbR]; exact (hfr.ext he).put hv _
    | false =>
      rw [if_neg (by simp)]
      obtain ⟨e1, e2, e3⟩ := hskip hr
      refine ih _ _ _ (by simpa using hsz) hcnt' hcl' hno' (by rw [put_defers]; exact hd) ⟨ρ, ?_, ?_, ?_⟩
      · rw [hbR]; exact hx0
      · rw [hbR]; exact hsb
      · rw [hgn, hbR, show vv i = .lit undef from e1]; exact hfr.put (.lit _) _
end Go.Cm
