/- The abstract machine, third state, part 15: regions that draw; code; the contract of a function out of its body. No condition. -/
import Derived.Test.YtibcoiabdnbdjaaDoorCme
namespace Go.Cm
open Go.RowKit
set_option linter.unusedSectionVars false
variable [Sig]

/-- the trace, operation by operation -/
def gAt (nt : Nat) (os : List Oper) (tr : List TrE) (g : Nat → AV) : Nat → (Nat → AV)
  | 0 => g
  | i + 1 => match os[i]?, tr[i]? with
    | some o, some t => putG nt (gAt nt os tr g i) o.dst t.v
    | _, _ => gAt nt os tr g i
def bAt (tr : List TrE) (bx : Bxs) : Nat → Bxs
  | 0 => bx
  | i + 1 => match tr[i]? with
    | some t => appL (bAt tr bx i) t.e
    | none => bAt tr bx i

theorem gAt_cons (nt : Nat) (o : Oper) (os : List Oper) (t : TrE) (tr : List TrE) (g : Nat → AV) : ∀ i, gAt nt (o :: os) (t :: tr) g (i + 1) = gAt nt os tr (putG nt g o.dst t.v) i
  | 0 => rfl
  | i + 1 => by
    have ih := gAt_cons nt o os t tr g i
    rw [gAt, ih]
    simp only [gAt, List.getElem?_cons_succ]
theorem bAt_cons (t : TrE) (tr : List TrE) (bx : Bxs) : ∀ i, bAt (t :: tr) bx (i + 1) = bAt tr (appL bx t.e) i
  | 0 => rfl
  | i + 1 => by
    have ih := bAt_cons t tr bx i
    rw [bAt, ih]
    simp only [bAt, List.getElem?_cons_succ]

theorem traced_at {P : Program} {nt : Nat} {ops : Array Oper} : ∀ (os : List Oper) (g : Nat → AV) (bx : Bxs) (tr : List TrE) (g' : Nat → AV) (bx' : Bxs), Traced P nt ops os g bx tr g' bx' →
    tr.length = os.length ∧ g' = gAt nt os tr g os.length ∧ bx' = bAt tr bx os.length ∧ ∀ i o t, os[i]? = some o → tr[i]? = some t → Local1 P ops o (gAt nt os tr g i) (bAt tr bx i) t
  | [], g, bx, tr, g', bx', h => by
    obtain ⟨rfl, rfl, rfl⟩ := h
    exact ⟨rfl, rfl, rfl, fun i o t h1 => by simp at h1⟩
  | o :: os, g, bx, tr, g', bx', h => by
    obtain ⟨t, tr', rfl, h1, h2⟩ := h
    obtain ⟨e1, e2, e3, e4⟩ := traced_at os _ _ tr' g' bx' h2
    refine ⟨by simp [e1], by rw [List.length_cons, gAt_cons]; exact e2, by rw [List.length_cons, bAt_cons]; exact e3, fun i o' t' a b => ?_⟩
    match i, a, b with
    | 0, a, b => simp at a b; subst a; subst b; exact h1
    | i + 1, a, b => rw [gAt_cons, bAt_cons]; exact e4 i o' t' (by simpa using a) (by simpa using b)

theorem looks_operand {ops : Array Oper} {o : Oper} {t : Nat} (h : Operand.tmp t ∈ o.op.operands) : t ∈ o.looksAt ops := by
  unfold Oper.looksAt
  refine List.mem_append_left _ (List.mem_filterMap.2 ⟨.tmp t, by simpa using h, rfl⟩)
theorem looks_guard {ops : Array Oper} {o : Oper} {j : Nat} {b : Bool} (hg : o.guard = some (j, b)) {s : Nat} (h : (ops[j]?).bind (·.dst) = some s) : s ∈ o.looksAt ops := by
  unfold Oper.looksAt
  refine List.mem_append_right _ ?_
  rw [hg]
  simp [h]

/-- the rule for every order -/
theorem traced_any {P : Program} {nt : Nat} {ops : Array Oper} {S : Start} {ds : List Deferred} {Q : Exit → Act → World → Prop} {st st' : St} {tr : List TrE}
    (htr : Traced P nt ops ops.toList (lk st.R) st.B tr (lk st'.R) st'.B) (hsl : slotsOk ops = true) (hbo : boxesOk ops ((tr.map fun t => (t.rd, t.e.map (·.1))).reverse) = true)
    (hnb : S.n ≤ st'.nb) (hq : ∀ a w, Sim S nt ds st' a w → Q .normal a w) :
    ∀ a w, Sim S nt ds st a w → wpAny P .any ops Q ops.size (Array.replicate ops.size false) a w := by
  obtain ⟨hlen, hend, hendb, hloc⟩ := traced_at _ _ _ _ _ _ htr
  simp only [Array.length_toList] at hlen hend hendb
  -- the parts of the trace as functions
  let op : Nat → Oper := fun i => ops.getD i default
  let te : Nat → TrE := fun i => tr.getD i ⟨false, .dead, [], []⟩
  let dst : Nat → Option Nat := fun i => (op i).dst
  let vv : Nat → AV := fun i => (te i).v
  let ee : Nat → List (Nat × Box) := fun i => (te i).e
  let g0 := lk st.R
  let b0 := bget st.B
  have hop : ∀ i, i < ops.size → ops[i]? = some (op i) := fun i hi => by simp [op, hi]
  have hopl : ∀ i, i < ops.size → ops.toList[i]? = some (op i) := fun i hi => by simp [op, hi]
  have hte : ∀ i, i < ops.size → tr[i]? = some (te i) := fun i hi => by
    have : i < tr.length := by omega
    simp [te, List.getD, List.getElem?_eq_getElem this]
  -- the state in the order of the text
  have htext : ∀ i, i ≤ ops.size → gAt nt ops.toList tr (lk st.R) i = gRun nt dst vv g0 (fun j => decide (j < i)) i ∧ bget (bAt tr st.B i) = bRun ee b0 (fun j => decide (j < i)) i := by
    intro i
    induction i with
    | zero => intro _; exact ⟨rfl, rfl⟩
    | succ i ih =>
      intro hi
      obtain ⟨i1, i2⟩ := ih (by omega)
      have hst : gAt nt ops.toList tr (lk st.R) (i + 1) = putG nt (gAt nt ops.toList tr (lk st.R) i) (op i).dst (te i).v := by
        rw [gAt, hopl i (by omega), hte i (by omega)]
      have hstb : bAt tr st.B (i + 1) = appL (bAt tr st.B i) (te i).e := by
        rw [bAt, hte i (by omega)]
      rw [hst, hstb, bget_appL, i1, i2]
      constructor
      · funext s
        rw [show gRun nt dst vv g0 (fun j => decide (j < i + 1)) (i + 1) = putG nt (gRun nt dst vv g0 (fun j => decide (j < i + 1)) i) (dst i) (vv i) from by simp [gRun]]
        exact putG_same _ (gRun_congr i fun j hj _ => by simp; omega) _
      · funext k
        rw [show bRun ee b0 (fun j => decide (j < i + 1)) (i + 1) = appE (bRun ee b0 (fun j => decide (j < i + 1)) i) (ee i) from by simp [bRun]]
        exact appE_same _ _ _ _ (bRun_congr i fun j hj _ => by simp; omega)
  -- conflicts are ordered
  have hsl' : ∀ j, j < ops.size → (∀ ed, ed ∈ (op j).after → Region.binds .any ed = true → ed.on < j) ∧ ∀ i, i < j → slotConf ops (op i) (op j) = true → ((Region.before ops).getD j 0).testBit i = true := by
    intro j hj
    unfold slotsOk at hsl
    have h1 := List.all_eq_true.1 hsl j (List.mem_range.2 hj)
    simp only [Bool.and_eq_true] at h1
    refine ⟨fun ed he hb => ?_, fun i hi hc => ?_⟩
    · have := Array.all_eq_true_iff_forall_mem.1 h1.1 ed he
      simpa [hb] using this
    · have h2 := List.all_eq_true.1 h1.2 i (List.mem_range.2 hi)
      simp only [Bool.or_eq_true, Bool.not_eq_true'] at h2
      rcases h2 with h2 | h2
      · exact h2
      · rw [show slotConf ops (ops.getD i default) (ops.getD j default) = slotConf ops (op i) (op j) from rfl, hc] at h2; cases h2
  have hbo' : ∀ i j, i < j → j < ops.size → (∃ k, (k ∈ (ee j).map (·.1) ∧ (k ∈ (te i).rd ∨ k ∈ (ee i).map (·.1))) ∨ (k ∈ (ee i).map (·.1) ∧ (k ∈ (te j).rd ∨ k ∈ (ee j).map (·.1)))) → ((Region.before ops).getD j 0).testBit i = true := by
    intro i j hi hj hc
    have hlg : ∀ i, i < ops.size → (((tr.map fun t => (t.rd, t.e.map (·.1))).reverse).reverse).getD i ([], []) = ((te i).rd, (ee i).map (·.1)) := fun i hi => by
      rw [List.reverse_reverse]
      simp [List.getD, hte i hi, ee]
    unfold boxesOk at hbo
    simp only [Bool.or_eq_true] at hbo
    rcases hbo with hbo | hbo
    · exfalso
      have hnone : ∀ i, i < ops.size → (ee i).map (·.1) = [] := fun i hi => by
        have := List.all_eq_true.1 hbo ((te i).rd, (ee i).map (·.1)) (by
          rw [List.mem_reverse, List.mem_map]
          exact ⟨te i, List.mem_of_getElem? (hte i hi), rfl⟩)
        simpa using this
      obtain ⟨k, hk⟩ := hc
      rw [hnone i (by omega), hnone j hj] at hk
      simp at hk
    · have h1 := List.all_eq_true.1 hbo j (List.mem_range.2 hj)
      have h2 := List.all_eq_true.1 h1 i (List.mem_range.2 hi)
      simp only [Bool.or_eq_true, Bool.not_eq_true'] at h2
      rcases h2 with h2 | h2
      · exact h2
      · exfalso
        rw [hlg i (by omega), hlg j hj] at h2
        obtain ⟨k, hk⟩ := hc
        have : boxConf ((te i).rd, (ee i).map (·.1)) ((te j).rd, (ee j).map (·.1)) = true := by
          unfold boxConf
          rw [Bool.or_eq_true]
          rcases hk with ⟨k1, k2⟩ | ⟨k1, k2⟩
          · exact .inl (inter_mem k1 (List.mem_append.2 k2))
          · exact .inr (inter_mem k1 (List.mem_append.2 k2))
        rw [this] at h2; cases h2
  -- the invariant
  suffices H : ∀ (fuel : Nat) (listed : Array Bool) (a : Act) (w : World), listed.size = ops.size → ((List.range ops.size).filter fun i => !listed.getD i true).length ≤ fuel →
      Closed ops (fun j => listed.getD j false) → a.defers = ds →
      (∃ ρ, Ext S.w S.ρ S.b w ρ (bRun ee b0 (fun j => listed.getD j false) ops.size) ∧ SimB w ρ (bRun ee b0 (fun j => listed.getD j false) ops.size) ∧ FrOk w ρ (bRun ee b0 (fun j => listed.getD j false) ops.size) nt a (gRun nt dst vv g0 (fun j => listed.getD j false) ops.size)) →
      wpAny P .any ops Q fuel listed a w by
    intro a w ⟨⟨ρ, h1, h2, h3⟩, h4, _⟩
    have hfalse : ∀ j, (Array.replicate ops.size false).getD j false = false := fun j => by
      rw [Array.getD_eq_getD_getElem?, Array.getElem?_replicate]; split <;> rfl
    have hD : (fun j => (Array.replicate ops.size false).getD j false) = fun _ => false := funext hfalse
    refine H ops.size _ a w (by simp) ?_ (fun j o _ hj => by have hj' : (Array.replicate ops.size false).getD j false = true := hj; rw [hfalse] at hj'; cases hj') h4 ?_
    · exact Nat.le_trans (List.length_filter_le _ _) (by simp)
    · rw [hD]
      have e1 : ∀ m, gRun nt dst vv g0 (fun _ => false) m = g0 := fun m => by induction m with | zero => rfl | succ m ih => simpa [gRun] using ih
      have e2 : ∀ m, bRun ee b0 (fun _ => false) m = b0 := fun m => by induction m with | zero => rfl | succ m ih => simpa [bRun] using ih
      rw [e1, e2]
      exact ⟨ρ, h1, h2, h3⟩
  intro fuel
  have done : ∀ (listed : Array Bool) (a : Act) (w : World), listed.size = ops.size → Region.ready .any ops listed = [] → a.defers = ds →
      (∃ ρ, Ext S.w S.ρ S.b w ρ (bRun ee b0 (fun j => listed.getD j false) ops.size) ∧ SimB w ρ (bRun ee b0 (fun j => listed.getD j false) ops.size) ∧ FrOk w ρ (bRun ee b0 (fun j => listed.getD j false) ops.size) nt a (gRun nt dst vv g0 (fun j => listed.getD j false) ops.size)) → Q .normal a w := by
    intro listed a w hsz hr hd ⟨ρ, h0, h1, h2⟩
    have hall : ∀ i, i < ops.size → listed.getD i false = true := by
      intro i
      induction i using Nat.strongRecOn with
      | _ i ih =>
        intro hi
        cases hl : listed.getD i false with
        | true => rfl
        | false =>
          exfalso
          have hmem : i ∈ Region.ready .any ops listed := by
            rw [mem_ready]
            have hi' : i < listed.size := by omega
            refine ⟨?_, op i, hop i hi, fun ed he hbd => ih ed.on ((hsl' i hi).1 ed he hbd) (by have := (hsl' i hi).1 ed he hbd; omega)⟩
            simpa [hi'] using hl
          rw [hr] at hmem
          cases hmem
    have e1 : gRun nt dst vv g0 (fun j => listed.getD j false) ops.size = lk st'.R := by
      rw [hend, (htext ops.size (Nat.le_refl _)).1]
      funext s
      exact gRun_congr _ fun j hj _ => by rw [hall j hj]; simp [hj]
    have e2 : bRun ee b0 (fun j => listed.getD j false) ops.size = bget st'.B := by
      rw [hendb, (htext ops.size (Nat.le_refl _)).2]
      funext s
      exact bRun_congr _ fun j hj _ => by rw [hall j hj]; simp [hj]
    rw [e1, e2] at h2
    rw [e2] at h1 h0
    exact hq a w ⟨⟨ρ, h0, h1, h2⟩, hd, hnb⟩
  induction fuel with
  | zero =>
    intro listed a w hsz hcnt _ hd hsim
    have hnil : (List.range ops.size).filter (fun i => !listed.getD i true) = [] := List.eq_nil_of_length_eq_zero (by omega)
    have hr : Region.ready .any ops listed = [] := by
      apply List.eq_nil_iff_forall_not_mem.2
      intro i hi
      have h0 := mem_ready.1 hi
      obtain ⟨h1, o, h2, _⟩ := h0
      have : i ∈ (List.range ops.size).filter (fun i => !listed.getD i true) := by
        rw [List.mem_filter, List.mem_range]
        exact ⟨(Array.getElem?_eq_some_iff.1 h2).1, by rw [h1]; rfl⟩
      rw [hnil] at this
      cases this
    exact ⟨hr, done listed a w hsz hr hd hsim⟩
  | succ fuel ih =>
    intro listed a w hsz hcnt hcl hd hsim
    refine ⟨fun hr => done listed a w hsz hr hd hsim, fun i hi => ?_⟩
    obtain ⟨h1, o, h2, h3⟩ := mem_ready.1 hi
    have hin : i < ops.size := (Array.getElem?_eq_some_iff.1 h2).1
    have hoi : o = op i := by rw [hop i hin] at h2; exact (Option.some.inj h2).symm
    subst hoi
    have hDi : listed.getD i false = false := by
      have hi' : i < listed.size := by omega
      simpa [hi'] using h1
    -- which of the others have come up
    have hbefore : ∀ j, ((Region.before ops).getD i 0).testBit j = true → listed.getD j false = true := hcl.ready h2 h3
    have hafter : ∀ j, ((Region.before ops).getD j 0).testBit i = true → listed.getD j false = false := fun j hj => by
      cases hl : listed.getD j false with
      | false => rfl
      | true => have := hcl.anc j i hj hl; rw [hDi] at this; cases this
    have hslot : ∀ s, s ∈ (op i).looksAt ops ∨ dst i = some s → ∀ j, j < ops.size → dst j = some s → listed.getD j false = decide (j < i) := by
      intro s hs j hj hdj
      by_cases hji : j = i
      · subst hji; rw [hDi]; simp
      · have hm : s ∈ dstL (op j) := by unfold dstL; rw [show (op j).dst = some s from hdj]; simp
        rcases Nat.lt_or_gt_of_ne hji with hlt | hgt
        · have hc : slotConf ops (op j) (op i) = true := by
            unfold slotConf
            rcases hs with hs | hs
            · rw [show inter (dstL (op j)) ((op i).looksAt ops) = true from inter_mem hm hs]; simp
            · rw [show inter (dstL (op j)) (dstL (op i)) = true from inter_mem hm (by unfold dstL; rw [show (op i).dst = some s from hs]; simp)]; simp
          rw [hbefore j ((hsl' i hin).2 j hlt hc)]
          simp [hlt]
        · have hc : slotConf ops (op i) (op j) = true := by
            unfold slotConf
            rcases hs with hs | hs
            · rw [show inter (dstL (op j)) ((op i).looksAt ops) = true from inter_mem hm hs]; simp
            · rw [show inter (dstL (op i)) (dstL (op j)) = true from inter_mem (by unfold dstL; rw [show (op i).dst = some s from hs]; simp) hm]; simp
          rw [hafter j ((hsl' j hj).2 i hgt hc)]
          simp; omega
    have hbox : ∀ k, k ∈ (te i).rd ∨ k ∈ (ee i).map (·.1) → ∀ j, j < ops.size → k ∈ (ee j).map (·.1) → listed.getD j false = decide (j < i) := by
      intro k hk j hj hkj
      by_cases hji : j = i
      · subst hji; rw [hDi]; simp
      · rcases Nat.lt_or_gt_of_ne hji with hlt | hgt
        · rw [hbefore j (hbo' j i hlt hin ⟨k, .inr ⟨hkj, hk⟩⟩)]
          simp [hlt]
        · rw [hafter j (hbo' i j hgt hj ⟨k, .inl ⟨hkj, hk⟩⟩)]
          simp; omega
    -- the state that the operation meets is that of the text
    have hgi : ∀ s, s ∈ (op i).looksAt ops ∨ dst i = some s → gRun nt dst vv g0 (fun j => listed.getD j false) ops.size s = gAt nt ops.toList tr (lk st.R) i s := by
      intro s hs
      rw [(htext i (by omega)).1, gRun_congr (D' := fun j => decide (j < i)) _ fun j hj hdj => hslot s hs j hj hdj]
      exact gRun_last _ (by omega) fun j h1 _ _ => by simp; omega
    have hbi : ∀ k, k ∈ (te i).rd ∨ k ∈ (ee i).map (·.1) → bRun ee b0 (fun j => listed.getD j false) ops.size k = bget (bAt tr st.B i) k := by
      intro k hk
      rw [(htext i (by omega)).2, bRun_congr (D' := fun j => decide (j < i)) _ fun j hj hdj => hbox k hk j hj hdj]
      exact bRun_last _ (by omega) fun j h1 _ _ => by simp; omega
    -- and the state behind it
    have hset : ∀ j, (listed.setIfInBounds i true).getD j false = if j = i then true else listed.getD j false := fun j => by
      by_cases hji : j = i
      · subst hji
        have hi' : j < listed.size := by omega
        simp [hi']
      · rw [if_neg hji, getD_set_ne false (Ne.symm hji)]
    have hgn : gRun nt dst vv g0 (fun j => (listed.setIfInBounds i true).getD j false) ops.size = putG nt (gRun nt dst vv g0 (fun j => listed.getD j false) ops.size) (dst i) (vv i) := by
      funext s
      by_cases hs : dst i = some s
      · have l1 : gRun nt dst vv g0 (fun j => (listed.setIfInBounds i true).getD j false) ops.size s = gRun nt dst vv g0 (fun j => (listed.setIfInBounds i true).getD j false) (i + 1) s :=
          gRun_last _ (by omega) fun j h1 h2 h3 => by
            rw [hset, if_neg (by omega), hslot s (.inr hs) j h2 h3]; simp; omega
        have l2 : gRun nt dst vv g0 (fun j => listed.getD j false) ops.size s = gRun nt dst vv g0 (fun j => listed.getD j false) i s :=
          gRun_last _ (by omega) fun j h1 h2 h3 => by
            rw [hslot s (.inr hs) j h2 h3]; simp; omega
        rw [l1]
        have hi1 : (listed.setIfInBounds i true).getD i false = true := by rw [hset, if_pos rfl]
        rw [show gRun nt dst vv g0 (fun j => (listed.setIfInBounds i true).getD j false) (i + 1) = putG nt (gRun nt dst vv g0 (fun j => (listed.setIfInBounds i true).getD j false) i) (dst i) (vv i) from if_pos hi1]
        refine putG_same _ ?_ _
        rw [l2]
        exact gRun_congr i fun j hj _ => by rw [hset, if_neg (by omega)]
      · rw [putG_other hs]
        exact gRun_congr _ fun j hj hdj => by
          rw [hset]
          by_cases hji : j = i
          · subst hji; exact absurd hdj hs
          · rw [if_neg hji]
    have hbn : bRun ee b0 (fun j => (listed.setIfInBounds i true).getD j false) ops.size = appE (bRun ee b0 (fun j => listed.getD j false) ops.size) (ee i) := by
      funext k
      by_cases hk : k ∈ (ee i).map (·.1)
      · have l1 : bRun ee b0 (fun j => (listed.setIfInBounds i true).getD j false) ops.size k = bRun ee b0 (fun j => (listed.setIfInBounds i true).getD j false) (i + 1) k :=
          bRun_last _ (by omega) fun j h1 h2 h3 => by
            rw [hset, if_neg (by omega), hbox k (.inr hk) j h2 h3]; simp; omega
        rw [l1]
        have hi1 : (listed.setIfInBounds i true).getD i false = true := by rw [hset, if_pos rfl]
        rw [show bRun ee b0 (fun j => (listed.setIfInBounds i true).getD j false) (i + 1) = appE (bRun ee b0 (fun j => (listed.setIfInBounds i true).getD j false) i) (ee i) from if_pos hi1]
        exact appE_in _ _ _ _ hk
      · rw [appE_out _ _ _ hk]
        exact bRun_congr _ fun j hj hdj => by
          rw [hset]
          by_cases hji : j = i
          · subst hji; exact absurd hdj hk
          · rw [if_neg hji]
    have hcl' : Closed ops (fun j => (listed.setIfInBounds i true).getD j false) := by
      intro j o ho hj ed he hbd
      have hj : (listed.setIfInBounds i true).getD j false = true := hj
      show (listed.setIfInBounds i true).getD ed.on false = true
      rw [hset] at hj ⊢
      by_cases hei : ed.on = i
      · rw [if_pos hei]
      · rw [if_neg hei]
        by_cases hji : j = i
        · subst hji
          rw [hop j hin] at ho
          injection ho with ho
          subst ho
          exact h3 ed he hbd
        · rw [if_neg hji] at hj
          exact hcl j o ho hj ed he hbd
    have hcnt' : ((List.range ops.size).filter fun j => !(listed.setIfInBounds i true).getD j true).length ≤ fuel := by
      have hlt : ((List.range ops.size).filter fun j => !(listed.setIfInBounds i true).getD j true).length < ((List.range ops.size).filter fun j => !listed.getD j true).length := by
        rw [← List.countP_eq_length_filter, ← List.countP_eq_length_filter]
        have hsub : ∀ (l : List Nat), i ∈ l → (∀ x, x ∈ l → True) → l.countP (fun j => !(listed.setIfInBounds i true).getD j true) < l.countP (fun j => !listed.getD j true) := by
          intro l
          have hle : ∀ l : List Nat, l.countP (fun j => !(listed.setIfInBounds i true).getD j true) ≤ l.countP (fun j => !listed.getD j true) := fun l => by
            apply List.countP_mono_left
            intro x _ hx
            by_cases hxi : i = x
            · subst hxi
              have hi' : i < listed.size := by omega
              simp [hi'] at hx
            · rw [getD_set_ne true hxi] at hx; exact hx
          induction l with
          | nil => intro h; cases h
          | cons x l ihl =>
            intro hm _
            rw [List.countP_cons, List.countP_cons]
            by_cases hxi : i = x
            · subst hxi
              have hi' : i < listed.size := by omega
              have e1 : (!(listed.setIfInBounds i true).getD i true) = false := by simp [hi']
              have e2 : (!listed.getD i true) = true := by rw [h1]; rfl
              rw [e1, e2]
              have := hle l
              rw [if_neg (by simp), if_pos rfl]
              omega
            · have hm' : i ∈ l := by
                rcases List.mem_cons.1 hm with h | h
                · exact absurd h hxi
                · exact h
              have := ihl hm' fun _ _ => trivial
              rw [getD_set_ne true hxi]
              omega
        exact hsub _ (List.mem_range.2 hin) fun _ _ => trivial
      omega
    have hL := hloc i (op i) (te i) (hopl i hin) (hte i hin)
    obtain ⟨hg, hrun, hskip, hnew⟩ := hL
    obtain ⟨ρ, hx0, hsb, hfr⟩ := hsim
    have hgok : gOk ops (op i) (gRun nt dst vv g0 (fun j => listed.getD j false) ops.size) (te i).run := by
      unfold gOk at hg ⊢
      cases hgu : (op i).guard with
      | none => rw [hgu] at hg; exact hg
      | some p =>
        obtain ⟨j, want⟩ := p
        rw [hgu] at hg
        simp only at hg ⊢
        obtain ⟨s, hs, hrest⟩ := hg
        refine ⟨s, hs, ?_⟩
        rw [hgi s (.inl (looks_guard hgu hs))]
        exact hrest
    unfold wpOp
    rw [h2]
    simp only
    rw [gOk_wanted hgok hfr]
    cases hr : (te i).run with
    | true =>
      rw [if_pos rfl]
      left
      refine hrun hr w ρ _ a _ _ (fun k hk => hbi k (.inl hk)) (fun k b hb => ?_) hsb (fun x hx => ?_) fun v' w' ρ' he hs' hv => ?_
      · rcases hnew k b hb with h | h
        · exact .inl h
        · refine .inr ?_
          rw [hbi k (.inr (List.mem_map.2 ⟨(k, b), hb, rfl⟩)), h]
      · have hev := hfr.eval x
        cases x with
        | tmp t =>
          have : evG (gAt nt ops.toList tr (lk st.R) i) (.tmp t) = evG (gRun nt dst vv g0 (fun j => listed.getD j false) ops.size) (.tmp t) := (hgi t (.inl (looks_operand hx))).symm
          rw [this]; exact hev
        | const => exact hev
        | global => exact hev
        | func => exact hev
      · refine ih _ _ _ (by simpa using hsz) hcnt' hcl' (by rw [put_defers]; exact hd) ⟨ρ', ?_, ?_, ?_⟩
        · rw [hbn]; exact hx0.trans he
        · rw [hbn]; exact hs'
        · rw [hgn, hbn]; exact (hfr.ext he).put hv _
    | false =>
      rw [if_neg (by simp)]
      obtain ⟨e1, e2, e3⟩ := hskip hr
      refine ih _ _ _ (by simpa using hsz) hcnt' hcl' (by rw [put_defers]; exact hd) ⟨ρ, ?_, ?_, ?_⟩
      · rw [hbn, show ee i = [] from e2]; exact hx0
      · rw [hbn, show ee i = [] from e2]; exact hsb
      · rw [hgn, hbn, show ee i = [] from e2, show vv i = .lit undef from e1]; exact hfr.put (.lit _) _
end Go.Cm
