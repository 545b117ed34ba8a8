/- The abstract machine, third state, part 17: what a loop or a join hands on: typed values out of a state, and the state out of them. No condition. -/
import Derived.Test.YtibcoiabdnbdjaaDoorCmg
namespace Go.Cm
open Go.RowKit
set_option linter.unusedSectionVars false
variable [Sig]

def packC (B : Bxs) : List (LK Sig.TI) → List (Option TypeId) → List AV → Option (List Tree × List Nat × List Nat)
  | [], _, [] => some ([], [], [])
  | o :: shp, os, a :: as =>
    match (match os.headD none with
      | some et => (match a with
        | .row k => (match bget B k with
          | .row _ et' q => (match decide (et' = et) with
            | true => some (TreeOf.sl q, [], [k])
            | false => none)
          | _ => none)
        | _ => none)
      | none => (match tT B o a with
        | some (t, ks) => some (t, ks, [])
        | none => none)) with
    | none => none
    | some (t, ks, ow) => match packC B shp os.tail as with
      | none => none
      | some (ts, ks', ow') => some (t :: ts, ks ++ ks', ow ++ ow')
  | _, _, _ => none

/-- how one edge leads from the boxes b1 to the boxes bU -/
structure EHyp (B : Bxs) (w : World) (ρ : Env) (b1 : Nat → Box) (ρ' : Env) (bU : Nat → Box) (n0 : Nat) (own ks : List Nat) : Prop where
  sim : SimB w ρ b1
  frz : Frz B ks b1
  own : ∀ i k, own[i]? = some k → (bU (n0 + i)).made ∧ ρ'.hd (n0 + i) = ρ.hd k
  ok : ∀ b, b < w.heap.size → okS ρ b1 b → okS ρ' bU b

theorem resC_own {os : List (Option TypeId)} {et : TypeId} {q : Row} {ts : List Tree} {n : Nat} (h : os.headD none = some et) :
    resC os (.sl q :: ts) n = (.row n :: (resC os.tail ts (n + 1)).1, (n, .row false et q) :: (resC os.tail ts (n + 1)).2) := by
  simp only [resC, h]
theorem resC_shared {os : List (Option TypeId)} {t : Tree} {ts : List Tree} {n : Nat} (h : os.headD none = none) :
    resC os (t :: ts) n = (ofTree t :: (resC os.tail ts n).1, (resC os.tail ts n).2) := by
  simp only [resC, h]

section
variable {B : Bxs} {w : World} {ρ ρ' : Env} {b1 bU : Nat → Box} {n0 : Nat} {own ks : List Nat}
theorem packC_sound (H : EHyp B w ρ b1 ρ' bU n0 own ks) : ∀ (shp : List (LK Sig.TI)) (os : List (Option TypeId)) (as : List AV) (ts : List Tree) (ks' ow : List Nat) (j : Nat) (vs : List Value),
    packC B shp os as = some (ts, ks', ow) → (∀ k, k ∈ ks' → k ∈ ks) → (∀ i k, ow[i]? = some k → own[j + i]? = some k) → RepL w ρ b1 vs as → RepL w ρ' bU vs (resC os ts (n0 + j)).1
  | [], os, [], ts, ks', ow, j, vs, h, _, _, hr => by
    simp only [packC, Option.some.injEq, Prod.mk.injEq] at h
    obtain ⟨rfl, rfl, rfl⟩ := h
    exact ⟨hr.1, fun i v t _ h2 => by simp [resC] at h2⟩
  | [], _, _ :: _, _, _, _, _, _, h, _, _, _ => by cases h
  | _ :: _, _, [], _, _, _, _, _, h, _, _, _ => by cases h
  | o :: shp, os, a :: as, ts, ks', ow, j, vs, h, hks, how, hr => by
    obtain ⟨v, us, rfl, hv, hus⟩ := hr.head
    simp only [packC] at h
    split at h
    · cases h
    · rename_i t k1 w1 h1
      split at h
      · cases h
      · rename_i ts' k2 w2 h2
        simp only [Option.some.injEq, Prod.mk.injEq] at h
        obtain ⟨rfl, rfl, rfl⟩ := h
        split at h1
        · rename_i et hos
          split at h1
          · rename_i k
            split at h1
            · rename_i full et' q hb
              split at h1
              · simp only [Option.some.injEq, Prod.mk.injEq] at h1
                obtain ⟨rfl, rfl, rfl⟩ := h1
                rw [resC_own hos]
                have ih := packC_sound H shp os.tail as ts' k2 w2 (j + 1) us h2 (fun k hk => hks k (by simp [hk])) (fun i k hi => by rw [show j + 1 + i = j + (i + 1) by omega]; exact how (i + 1) k (by simpa using hi)) hus
                obtain ⟨m1, m2⟩ := H.own j k (by have := how 0 k (by simp); simpa using this)
                refine RepL.cons ?_ ih
                cases hv with
                | row _ _ hm hs hv => exact .row _ _ m1 hs (by rw [m2]; exact hv)
              · cases h1
            · cases h1
          · cases h1
        · rename_i hos
          split at h1
          · rename_i t' kt ht
            simp only [Option.some.injEq, Prod.mk.injEq] at h1
            obtain ⟨rfl, rfl, rfl⟩ := h1
            rw [resC_shared hos]
            have ih := packC_sound H shp os.tail as ts' k2 w2 j us h2 (fun k hk => hks k (by simp [hk])) (fun i k hi => how i k (by simpa using hi)) hus
            refine RepL.cons ?_ ih
            exact Rep_ofTree ((tT_sound ht H.sim (fun k hk => H.frz k (hks k (by simp [hk]))) hv).ext fun b hb hlt => ⟨rfl, H.ok b hlt hb⟩)
          · cases h1

theorem packC_boxes : ∀ (shp : List (LK Sig.TI)) (os : List (Option TypeId)) (as : List AV) (ts : List Tree) (ks' ow : List Nat) (n : Nat),
    packC B shp os as = some (ts, ks', ow) → (resC os ts n).2.length = ow.length ∧ (∀ i, i < ow.length → ∃ b, (n + i, b) ∈ (resC os ts n).2) ∧
      ∀ k b, (k, b) ∈ (resC os ts n).2 → ∃ i k' full et q, k = n + i ∧ ow[i]? = some k' ∧ b = .row false et q ∧ bget B k' = .row full et q
  | [], os, [], ts, ks', ow, n, h => by
    simp only [packC, Option.some.injEq, Prod.mk.injEq] at h
    obtain ⟨rfl, rfl, rfl⟩ := h
    exact ⟨rfl, fun i hi => by simp at hi, fun k b hb => by simp [resC] at hb⟩
  | [], _, _ :: _, _, _, _, _, h => by cases h
  | _ :: _, _, [], _, _, _, _, h => by cases h
  | o :: shp, os, a :: as, ts, ks', ow, n, h => by
    simp only [packC] at h
    split at h
    · cases h
    · rename_i t k1 w1 h1
      split at h
      · cases h
      · rename_i ts' k2 w2 h2
        simp only [Option.some.injEq, Prod.mk.injEq] at h
        obtain ⟨rfl, rfl, rfl⟩ := h
        split at h1
        · rename_i et hos
          split at h1
          · rename_i k
            split at h1
            · rename_i full et' q hb
              split at h1
              · rename_i hd
                have hd := of_decide_eq_true hd
                subst hd
                simp only [Option.some.injEq, Prod.mk.injEq] at h1
                obtain ⟨rfl, rfl, rfl⟩ := h1
                rw [resC_own hos]
                obtain ⟨i1, i2, i3⟩ := packC_boxes shp os.tail as ts' k2 w2 (n + 1) h2
                refine ⟨by simp [i1], fun i hi => ?_, fun k' b hb' => ?_⟩
                · match i, hi with
                  | 0, _ => exact ⟨_, List.mem_cons_self ..⟩
                  | i + 1, hi =>
                    obtain ⟨b, hb'⟩ := i2 i (by simp at hi; omega)
                    exact ⟨b, List.mem_cons_of_mem _ (by rw [show n + (i + 1) = n + 1 + i by omega]; exact hb')⟩
                · rcases List.mem_cons.1 hb' with hb' | hb'
                  · injection hb' with e1 e2
                    exact ⟨0, k, full, _, q, by omega, by simp, e2, hb⟩
                  · obtain ⟨i, k'', full', et'', q', g1, g2, g3, g4⟩ := i3 k' b hb'
                    exact ⟨i + 1, k'', full', et'', q', by omega, by simpa using g2, g3, g4⟩
              · cases h1
            · cases h1
          · cases h1
        · rename_i hos
          split at h1
          · simp only [Option.some.injEq, Prod.mk.injEq] at h1
            obtain ⟨rfl, rfl, rfl⟩ := h1
            rw [resC_shared hos]
            exact packC_boxes shp os.tail as ts' k2 w2 n h2
          · cases h1
end

/-! items -/
inductive Loc where
  | reg (t : Nat)
  | box (k : Nat) (ty : TypeId)
  | row (k : Nat) (et : TypeId)
  | map (k : Nat) (kd : IntKind)
  | boxs (k : Nat) (ty : TypeId) (sm : List (Nat × Nat × Nat))
  | itr (k : Nat)
structure Item where
  loc : Loc
  ti : Sig.TI
  os : List (Option TypeId)
/-- what an item is: a map is the function from its keys -/
def LocT (ti : Sig.TI) : Loc → Type
  | .reg _ => Sig.Car ti
  | .box _ _ => Sig.Car ti
  | .row _ _ => Sig.Car ti
  | .map _ _ => Int → Option (Sig.Car ti)
  | .boxs _ _ _ => Sig.Car ti
  | .itr _ => ByteArray × Nat
def ItT (it : Item) : Type := LocT it.ti it.loc
def PT : List Item → Type
  | [] => Unit
  | [i] => ItT i
  | i :: j :: is => ItT i × PT (j :: is)
/-- cells that hold the same row before and after: they are not handed on with the variable -/
def rowTI (shp : List (LK Sig.TI)) (j : Nat) : Option Sig.TI := match shp[j]? with
  | some (.sl te) => some te
  | _ => none
def boolAt (shp : List (LK Sig.TI)) (j : Nat) : Bool := match shp[j]? with
  | some .bool => true
  | _ => false
def blank (shp : List (LK Sig.TI)) : List (Nat × Nat × Nat) → List AV → Option (List AV)
  | [], cs => some cs
  | (j, 0, k) :: sm, cs => (match cs[j]?, rowTI shp j with
    | some (.row k'), some te => match decide (k' = k) with
      | true => blank shp sm (cs.set j (.sl ⟨te, []⟩))
      | false => none
    | _, _ => none)
  | (j, 1, k) :: sm, cs => (match cs[j]?, boolAt shp j with
    | some (.selfn k'), true => match decide (k' = k) with
      | true => blank shp sm (cs.set j (.lit (.bool false)))
      | false => none
    | _, _ => none)
  | (j, _ + 2, _) :: sm, cs => (match cs[j]? with
    | some (.rowz k') => blank shp sm (cs.set j (.row k'))
    | _ => none)
def upz (j : Nat) (cs : List AV) : List AV := match cs[j]? with
  | some (.row k) => cs.set j (.rowz k)
  | _ => cs
def unblank : List (Nat × Nat × Nat) → List AV → List AV
  | [], cs => cs
  | (j, 0, k) :: sm, cs => (unblank sm cs).set j (.row k)
  | (j, 1, k) :: sm, cs => (unblank sm cs).set j (.selfn k)
  | (j, _ + 2, _) :: sm, cs => upz j (unblank sm cs)
theorem RepL.set {w : World} {ρ : Env} {bx : Nat → Box} {vs : List Value} {ts : List AV} (h : RepL w ρ bx vs ts) {j : Nat} {v : Value} {t : AV} (hr : Rep w ρ bx v t) : RepL w ρ bx (vs.set j v) (ts.set j t) :=
  ⟨by simp [h.1], fun i u s h1 h2 => by
    rw [List.getElem?_set] at h1 h2
    by_cases hij : j = i
    · subst hij
      rw [if_pos rfl] at h1 h2
      split at h1
      · rename_i hlt
        rw [if_pos (by rw [← h.1]; exact hlt)] at h2
        cases h1; cases h2
        exact hr
      · cases h1
    · rw [if_neg hij] at h1 h2
      exact h.2 i u s h1 h2⟩
theorem Rep.rowMove {w : World} {ρ ρ' : Env} {b1 bU : Nat → Box} {v : Value} {k : Nat} (h : Rep w ρ b1 v (.row k)) (hm : (b1 k).made → (bU k).made ∧ ρ'.hd k = ρ.hd k) : Rep w ρ' bU v (.row k) := by
  cases h with
  | row _ _ m hs hv =>
    obtain ⟨m1, m2⟩ := hm m
    exact .row _ _ m1 hs (by rw [m2]; exact hv)
theorem Rep.selfMove {w : World} {ρ ρ' : Env} {b1 bU : Nat → Box} {v : Value} {k : Nat} (h : Rep w ρ b1 v (.selfn k)) (hm : (b1 k).made → (bU k).made ∧ ρ'.β k = ρ.β k) : Rep w ρ' bU v (.selfn k) := by
  cases h with
  | selfn _ _ m hv =>
    obtain ⟨m1, m2⟩ := hm m
    exact .selfn _ _ m1 (by rw [m2]; exact hv)
theorem blank_sound {w : World} {ρ ρ' : Env} {b1 bU : Nat → Box} {shp : List (LK Sig.TI)} : ∀ (sm : List (Nat × Nat × Nat)) (cs cs2 : List AV) (vs : List Value), blank shp sm cs = some cs2 → (∀ p, p ∈ sm → (b1 p.2.2).made → (bU p.2.2).made ∧ ρ'.β p.2.2 = ρ.β p.2.2 ∧ ρ'.hd p.2.2 = ρ.hd p.2.2) → RepL w ρ b1 vs cs →
    ∃ vs2, RepL w ρ b1 vs2 cs2 ∧ ∀ cs3, RepL w ρ' bU vs2 cs3 → RepL w ρ' bU vs (unblank sm cs3)
  | [], cs, cs2, vs, h, _, hr => by
    cases h
    exact ⟨vs, hr, fun cs3 h => h⟩
  | (j, 0, k) :: sm, cs, cs2, vs, h, hlow, hr => by
    simp only [blank] at h
    split at h
    · rename_i k' te hj hte
      split at h
      · rename_i hk
        have hk := of_decide_eq_true hk
        subst hk
        have hjl : j < vs.length := by rw [hr.1]; exact (List.getElem?_eq_some_iff.1 hj).1
        have hrow := hr.2 j vs[j] _ (List.getElem?_eq_getElem hjl) hj
        have hblank : RepL w ρ b1 (vs.set j (.slice none 0 0)) (cs.set j (.sl ⟨te, []⟩)) := hr.set (.sl _ _ (zeroIs1_rep (v := .slice none 0 0) (t := .sl ⟨te, []⟩) rfl))
        obtain ⟨vs2, g1, g2⟩ := blank_sound sm _ cs2 _ h (fun p hp => hlow p (List.mem_cons_of_mem _ hp)) hblank
        refine ⟨vs2, g1, fun cs3 h3 => ?_⟩
        have h4 := g2 cs3 h3
        have hnew : Rep w ρ' bU vs[j] (.row k') := hrow.rowMove (fun hm => ⟨(hlow (j, 0, k') (List.mem_cons_self ..) hm).1, (hlow (j, 0, k') (List.mem_cons_self ..) hm).2.2⟩)
        have h5 := h4.set (j := j) hnew
        rw [List.set_set, List.set_getElem_self] at h5
        exact h5
      · cases h
    · cases h
  | (j, 1, k) :: sm, cs, cs2, vs, h, hlow, hr => by
    simp only [blank] at h
    split at h
    · rename_i k' hj hte
      split at h
      · rename_i hk
        have hk := of_decide_eq_true hk
        subst hk
        have hjl : j < vs.length := by rw [hr.1]; exact (List.getElem?_eq_some_iff.1 hj).1
        have hself := hr.2 j vs[j] _ (List.getElem?_eq_getElem hjl) hj
        have hblank : RepL w ρ b1 (vs.set j (.bool false)) (cs.set j (.lit (.bool false))) := hr.set (.lit _)
        obtain ⟨vs2, g1, g2⟩ := blank_sound sm _ cs2 _ h (fun p hp => hlow p (List.mem_cons_of_mem _ hp)) hblank
        refine ⟨vs2, g1, fun cs3 h3 => ?_⟩
        have h4 := g2 cs3 h3
        have hnew : Rep w ρ' bU vs[j] (.selfn k') := hself.selfMove (fun hm => ⟨(hlow (j, 1, k') (List.mem_cons_self ..) hm).1, (hlow (j, 1, k') (List.mem_cons_self ..) hm).2.1⟩)
        have h5 := h4.set (j := j) hnew
        rw [List.set_set, List.set_getElem_self] at h5
        exact h5
      · cases h
    · cases h
  | (j, m + 2, k) :: sm, cs, cs2, vs, h, hlow, hr => by
    simp only [blank] at h
    split at h
    · rename_i k' hj
      have hjl : j < vs.length := by rw [hr.1]; exact (List.getElem?_eq_some_iff.1 hj).1
      obtain ⟨hz, hrow⟩ := (hr.2 j vs[j] _ (List.getElem?_eq_getElem hjl) hj).inv_rowz
      have hblank : RepL w ρ b1 vs (cs.set j (.row k')) := by
        have := hr.set (j := j) hrow
        rw [List.set_getElem_self] at this
        exact this
      obtain ⟨vs2, g1, g2⟩ := blank_sound sm _ cs2 _ h (fun p hp => hlow p (List.mem_cons_of_mem _ hp)) hblank
      refine ⟨vs2, g1, fun cs3 h3 => ?_⟩
      have h4 := g2 cs3 h3
      show RepL w ρ' bU vs (upz j (unblank sm cs3))
      unfold upz
      split
      · rename_i k2 hj2
        have := h4.set (j := j) ((h4.2 j vs[j] _ (List.getElem?_eq_getElem hjl) hj2).mkRowz hz)
        rw [List.set_getElem_self] at this
        exact this
      · exact h4
    · cases h
def locC (s : St) (it : Item) : Option (List AV) :=
  match it.loc with
  | .reg t => match Sig.isAgg it.ti, lk s.R t with
    | true, .agg cs => some cs
    | true, _ => none
    | false, a => some [a]
  | .box k ty => match bget s.B k with
    | .var ty' cs => match decide (ty' = ty) with
      | true => some cs
      | false => none
    | _ => none
  | .row _ _ => none
  | .map _ _ => none
  | .itr _ => none
  | .boxs k ty sm => match bget s.B k with
    | .var ty' cs => match decide (ty' = ty) with
      | true => blank (Sig.shp it.ti) sm cs
      | false => none
    | _ => none
def packD (s : St) (ti : Sig.TI) (os : List (Option TypeId)) (cs : List AV) : Option (Sig.Car ti × List Nat × List Nat) :=
  match packC s.B (Sig.shp ti) os cs with
  | none => none
  | some (ts, ks, ow) => match fits (Sig.shp ti) ts with
    | true => some (Sig.dec ti ts, ks, ow)
    | false => none
def castM {e ti : Sig.TI} (h : e = ti) (f : Int → Option (Sig.Car e)) : Int → Option (Sig.Car ti) := h ▸ f
def pack1L (s : St) (ti : Sig.TI) (os : List (Option TypeId)) : (l : Loc) → Option (LocT ti l × List Nat × List Nat)
  | .reg t => match locC s ⟨.reg t, ti, os⟩ with
    | none => none
    | some cs => packD s ti os cs
  | .box k ty => match locC s ⟨.box k ty, ti, os⟩ with
    | none => none
    | some cs => packD s ti os cs
  | .boxs k ty sm => match locC s ⟨.boxs k ty sm, ti, os⟩ with
    | none => none
    | some cs => packD s ti os cs
  | .row k et => match bget s.B k with
    | .row _ et' q => match decide (et' = et) && fits (Sig.shp ti) [.sl q] with
      | true => some (Sig.dec ti [.sl q], [], [])
      | false => none
    | _ => none
  | .map k kd => match bget s.B k with
    | .map kd' e f => match decide (kd' = kd) with
      | true => (match Sig.deq e ti with
        | .isTrue h => some (castM h f, [], [])
        | .isFalse _ => none)
      | false => none
    | _ => none
  | .itr k => match bget s.B k with
    | .iter u p => some ((u, p), [], [])
    | _ => none
def pack1 (s : St) (it : Item) : Option (ItT it × List Nat × List Nat) := pack1L s it.ti it.os it.loc
def pack (s : St) : (is : List Item) → Option (PT is × List Nat × List Nat)
  | [] => some ((), [], [])
  | [i] => pack1 s i
  | i :: j :: is => match pack1 s i with
    | none => none
    | some (x, ks, ow) => match pack s (j :: is) with
      | none => none
      | some (p, ks', ow') => some ((x, p), ks ++ ks', ow ++ ow')
def unpk1L (ti : Sig.TI) (os : List (Option TypeId)) : (l : Loc) → LocT ti l → Nat → List (Nat × AV) × List (Nat × Box) × Nat
  | .reg t, x, n => ([(t, avT ti (resC os (Sig.enc ti x) n).1)], (resC os (Sig.enc ti x) n).2, n + (resC os (Sig.enc ti x) n).2.length)
  | .box k ty, x, n => ([], (k, .var ty (resC os (Sig.enc ti x) n).1) :: (resC os (Sig.enc ti x) n).2, n + (resC os (Sig.enc ti x) n).2.length)
  | .row k et, x, n => match Sig.enc ti x with
    | [.sl q] => ([], [(k, .row false et q)], n)
    | _ => ([], [], n)
  | .map k kd, f, n => ([], [(k, .map kd ti f)], n)
  | .itr k, f, n => ([], [(k, .iter f.1 f.2)], n)
  | .boxs k ty sm, x, n => ([], (k, .var ty (unblank sm (resC os (Sig.enc ti x) n).1)) :: (resC os (Sig.enc ti x) n).2, n + (resC os (Sig.enc ti x) n).2.length)
def unpk1 (it : Item) (x : ItT it) (n : Nat) : List (Nat × AV) × List (Nat × Box) × Nat := unpk1L it.ti it.os it.loc x n
def unpk : (is : List Item) → PT is → Nat → List (Nat × AV) × List (Nat × Box) × Nat
  | [], _, n => ([], [], n)
  | [i], x, n => unpk1 i x n
  | i :: j :: is, x, n =>
    ((unpk1 i x.1 n).1 ++ (unpk (j :: is) x.2 (unpk1 i x.1 n).2.2).1, (unpk1 i x.1 n).2.1 ++ (unpk (j :: is) x.2 (unpk1 i x.1 n).2.2).2.1, (unpk (j :: is) x.2 (unpk1 i x.1 n).2.2).2.2)

def itRegs : List Item → List Nat
  | [] => []
  | i :: is => match i.loc with | .reg t => t :: itRegs is | _ => itRegs is
def itBoxes : List Item → List Nat
  | [] => []
  | i :: is => match i.loc with | .box k _ => k :: itBoxes is | .row k _ => k :: itBoxes is | .map k _ => k :: itBoxes is | .boxs k _ _ => k :: itBoxes is | .itr k => k :: itBoxes is | _ => itBoxes is
def itRows : List Item → List Nat
  | [] => []
  | i :: is => match i.loc with | .row k _ => k :: itRows is | _ => itRows is

def itSame : List Item → List Nat
  | [] => []
  | i :: is => match i.loc with | .boxs _ _ sm => sm.map (·.2.2) ++ itSame is | _ => itSame is
/-- what one item's register holds -/
def RegOf (s : St) (n0 : Nat) (own ks : List Nat) (t : Nat) (v : AV) : Prop :=
  ∀ w ρ b1 ρ' bU, EHyp s.B w ρ b1 ρ' bU n0 own ks → ∀ u, Rep w ρ b1 u (lk s.R t) → Rep w ρ' bU u v
/-- boxes that stay as they are -/
def keepB : Box → Bool
  | .map .. => true
  | .iter .. => true
  | _ => false
/-- what one item's boxes are -/
def BoxOk (s : St) (n0 : Nat) (own ks : List Nat) (rows bxs sm : List Nat) (k : Nat) (b : Box) : Prop :=
  (∃ i k' full et q, k = n0 + i ∧ own[i]? = some k' ∧ b = .row false et q ∧ bget s.B k' = .row full et q) ∨
  (∃ full et q, k ∈ rows ∧ b = .row false et q ∧ bget s.B k = .row full et q) ∨
  (∃ ty cs cs', k ∈ bxs ∧ b = .var ty cs' ∧ bget s.B k = .var ty cs ∧ ∀ w ρ b1 ρ' bU, EHyp s.B w ρ b1 ρ' bU n0 own ks → (∀ k, k ∈ sm → (b1 k).made → (bU k).made ∧ ρ'.β k = ρ.β k ∧ ρ'.hd k = ρ.hd k) → ∀ vs, RepL w ρ b1 vs cs → RepL w ρ' bU vs cs') ∨
  (∃ b0, k ∈ bxs ∧ b = b0 ∧ bget s.B k = b0 ∧ keepB b0 = true)

theorem avT_agg {t : Sig.TI} (h : Sig.isAgg t = true) (as : List AV) : avT t as = .agg as := by unfold avT; rw [h]
theorem avT_one {t : Sig.TI} (h : Sig.isAgg t = false) (a : AV) : avT t [a] = a := by unfold avT; rw [h]

theorem pack1_spec {s : St} {it : Item} {x : ItT it} {ks' ow : List Nat} (h : pack1 s it = some (x, ks', ow)) {n0 j : Nat} {own ks : List Nat} (hks : ∀ k, k ∈ ks' → k ∈ ks) (how : ∀ i k, ow[i]? = some k → own[j + i]? = some k) :
    (unpk1 it x (n0 + j)).2.2 = n0 + j + ow.length ∧ (∀ i, i < ow.length → ∃ b, (n0 + j + i, b) ∈ (unpk1 it x (n0 + j)).2.1) ∧ (∀ t v, (t, v) ∈ (unpk1 it x (n0 + j)).1 → RegOf s n0 own ks t v) ∧
      (∀ t, t ∈ itRegs [it] → ∃ v, (t, v) ∈ (unpk1 it x (n0 + j)).1) ∧ (∀ k, k ∈ itBoxes [it] → ∃ b, (k, b) ∈ (unpk1 it x (n0 + j)).2.1) ∧ ∀ k b, (k, b) ∈ (unpk1 it x (n0 + j)).2.1 → BoxOk s n0 own ks (itRows [it]) (itBoxes [it]) (itSame [it]) k b := by
  obtain ⟨loc, ti, os⟩ := it
  have main : ∀ (x : Sig.Car ti) (cs : List AV), packD s ti os cs = some (x, ks', ow) → ∃ ts, Sig.enc ti x = ts ∧ packC s.B (Sig.shp ti) os cs = some (ts, ks', ow) := by
    intro x cs h
    unfold packD at h
    split at h
    · cases h
    · rename_i ts k1 w1 hp
      split at h
      · rename_i hf
        simp only [Option.some.injEq, Prod.mk.injEq] at h
        obtain ⟨rfl, rfl, rfl⟩ := h
        exact ⟨ts, Sig.enc_dec _ _ hf, hp⟩
      · cases h
  have rowsOk : ∀ (cs : List AV) (ts : List Tree), packC s.B (Sig.shp ti) os cs = some (ts, ks', ow) → ∀ k b rows bxs sm, (k, b) ∈ (resC os ts (n0 + j)).2 → BoxOk s n0 own ks rows bxs sm k b := by
    intro cs ts hp k b rows bxs sm hb
    obtain ⟨i, k', full, et, q, g1, g2, g3, g4⟩ := (packC_boxes _ _ _ _ _ _ (n0 + j) hp).2.2 k b hb
    exact .inl ⟨j + i, k', full, et, q, by omega, how i k' g2, g3, g4⟩
  cases loc with
  | reg t =>
    simp only [pack1, pack1L, locC] at h
    split at h
    · cases h
    · rename_i cs hcs
      obtain ⟨ts, he, hp⟩ := main x cs h
      have hb := packC_boxes _ _ _ _ _ _ (n0 + j) hp
      simp only [unpk1, unpk1L, he]
      refine ⟨by rw [hb.1], hb.2.1, fun t' v' hm => ?_, fun t' ht => ?_, fun k hk => by simp [itBoxes] at hk, fun k b hkb => rowsOk cs ts hp k b _ _ _ hkb⟩
      · simp only [List.mem_singleton, Prod.mk.injEq] at hm
        obtain ⟨rfl, rfl⟩ := hm
        intro w ρ b1 ρ' bU H u hu
        split at hcs
        · rename_i cs' hag hlk
          injection hcs with hcs
          subst hcs
          rw [hlk] at hu
          obtain ⟨vs, rfl, hvs⟩ := hu.inv_agg
          have := packC_sound H _ _ _ _ _ _ j vs hp hks how hvs
          rw [avT_agg hag]
          exact .agg vs _ this.1 this.2
        · cases hcs
        · rename_i hag
          injection hcs with hcs
          subst hcs
          have hr1 : RepL w ρ b1 [u] [lk s.R t'] := ⟨rfl, fun i v t h1 h2 => by
            match i, h1, h2 with
            | 0, h1, h2 => simp at h1 h2; subst h1; subst h2; exact hu
            | i + 1, h1, _ => simp at h1⟩
          have := packC_sound H _ _ _ _ _ _ j [u] hp hks how hr1
          have hl := this.1
          match hrc : (resC os ts (n0 + j)).1, hl, this with
          | [y], _, this => rw [avT_one hag]; exact this.2 0 u y rfl rfl
      · simp [itRegs] at ht
        subst ht
        exact ⟨_, List.mem_singleton.2 rfl⟩
  | box k ty =>
    simp only [pack1, pack1L, locC] at h
    split at h
    · cases h
    · rename_i cs hcs
      obtain ⟨ts, he, hp⟩ := main x cs h
      have hb := packC_boxes _ _ _ _ _ _ (n0 + j) hp
      simp only [unpk1, unpk1L, he]
      refine ⟨by rw [hb.1], fun i hi => ?_, fun t' v' hm => by simp at hm, fun t' ht => by simp [itRegs] at ht, fun k' hk => ?_, fun k' b hkb => ?_⟩
      · obtain ⟨b, hb'⟩ := hb.2.1 i hi
        exact ⟨b, List.mem_cons_of_mem _ hb'⟩
      · simp [itBoxes] at hk
        subst hk
        exact ⟨_, List.mem_cons_self ..⟩
      · rcases List.mem_cons.1 hkb with hkb | hkb
        · injection hkb with e1 e2
          subst e1; subst e2
          split at hcs
          · rename_i ty' cs' hbx
            split at hcs
            · rename_i hd
              have hd := of_decide_eq_true hd
              subst hd
              injection hcs with hcs
              subst hcs
              exact .inr (.inr (.inl ⟨_, _, _, by simp [itBoxes], rfl, hbx, fun w ρ b1 ρ' bU H _ vs hvs => packC_sound H _ _ _ _ _ _ j vs hp hks how hvs⟩))
            · cases hcs
          · cases hcs
        · exact rowsOk cs ts hp k' b _ _ _ hkb
  | row k et =>
    simp only [pack1, pack1L] at h
    split at h
    · rename_i full et' q hbx
      split at h
      · rename_i hc
        simp only [Bool.and_eq_true, decide_eq_true_eq] at hc
        obtain ⟨rfl, hf⟩ := hc
        cases h
        have hun : unpk1 ⟨.row k et', ti, os⟩ (Sig.dec ti [.sl q]) (n0 + j) = ([], [(k, .row false et' q)], n0 + j) := by simp only [unpk1, unpk1L, Sig.enc_dec _ _ hf]
        rw [hun]
        refine ⟨by simp, fun i hi => by simp at hi, fun t' v' hm => by simp at hm, fun t' ht => by simp [itRegs] at ht, fun k' hk => ?_, fun k' b hkb => ?_⟩
        · simp [itBoxes] at hk
          subst hk
          exact ⟨_, List.mem_singleton.2 rfl⟩
        · simp only [List.mem_singleton, Prod.mk.injEq] at hkb
          obtain ⟨rfl, rfl⟩ := hkb
          exact .inr (.inl ⟨full, _, q, by simp [itRows], rfl, hbx⟩)
      · cases h
    · cases h
  | boxs k ty sm =>
    simp only [pack1, pack1L] at h
    split at h
    · cases h
    · rename_i cs2 hloc
      simp only [locC] at hloc
      split at hloc
      · rename_i ty' cs hbx
        split at hloc
        · rename_i hd
          have hd := of_decide_eq_true hd
          subst hd
          obtain ⟨ts, he, hp⟩ := main x cs2 h
          have hb := packC_boxes _ _ _ _ _ _ (n0 + j) hp
          simp only [unpk1, unpk1L, he]
          refine ⟨by rw [hb.1], fun i hi => ?_, fun t' v' hm => by simp at hm, fun t' ht => by simp [itRegs] at ht, fun k' hk => ?_, fun k' b hkb => ?_⟩
          · obtain ⟨b, hb'⟩ := hb.2.1 i hi
            exact ⟨b, List.mem_cons_of_mem _ hb'⟩
          · simp [itBoxes] at hk
            subst hk
            exact ⟨_, List.mem_cons_self ..⟩
          · rcases List.mem_cons.1 hkb with hkb | hkb
            · injection hkb with e1 e2
              subst e1; subst e2
              refine .inr (.inr (.inl ⟨_, _, _, by simp [itBoxes], rfl, hbx, fun w ρ b1 ρ' bU H hlow vs hvs => ?_⟩))
              obtain ⟨vs2, g1, g2⟩ := blank_sound (ρ' := ρ') (bU := bU) sm cs cs2 vs hloc (fun p hp' => hlow p.2.2 (by simp only [itSame, List.append_nil]; exact List.mem_map.2 ⟨p, hp', rfl⟩)) hvs
              exact g2 _ (packC_sound H _ _ _ _ _ _ j vs2 hp hks how g1)
            · exact rowsOk cs2 ts hp k' b _ _ _ hkb
        · cases hloc
      · cases hloc
  | map k kd =>
    simp only [pack1, pack1L] at h
    split at h
    · rename_i kd' e f hbx
      split at h
      · rename_i hd
        have hd := of_decide_eq_true hd
        subst hd
        split at h
        · rename_i he _
          subst he
          cases h
          have hun : unpk1 ⟨.map k kd', e, os⟩ (castM rfl f) (n0 + j) = ([], [(k, .map kd' e f)], n0 + j) := rfl
          rw [hun]
          refine ⟨by simp, fun i hi => by simp at hi, fun t' v' hm => by simp at hm, fun t' ht => by simp [itRegs] at ht, fun k' hk => ?_, fun k' b hkb => ?_⟩
          · simp [itBoxes] at hk
            subst hk
            exact ⟨_, List.mem_singleton.2 rfl⟩
          · simp only [List.mem_singleton, Prod.mk.injEq] at hkb
            obtain ⟨rfl, rfl⟩ := hkb
            exact .inr (.inr (.inr ⟨_, by simp [itBoxes], rfl, hbx, rfl⟩))
        · cases h
      · cases h
    · cases h
  | itr k =>
    simp only [pack1, pack1L] at h
    split at h
    · rename_i u p hbx
      cases h
      have hun : unpk1 ⟨.itr k, ti, os⟩ (u, p) (n0 + j) = ([], [(k, .iter u p)], n0 + j) := rfl
      rw [hun]
      refine ⟨by simp, fun i hi => by simp at hi, fun t' v' hm => by simp at hm, fun t' ht => by simp [itRegs] at ht, fun k' hk => ?_, fun k' b hkb => ?_⟩
      · simp [itBoxes] at hk
        subst hk
        exact ⟨_, List.mem_singleton.2 rfl⟩
      · simp only [List.mem_singleton, Prod.mk.injEq] at hkb
        obtain ⟨rfl, rfl⟩ := hkb
        exact .inr (.inr (.inr ⟨_, by simp [itBoxes], rfl, hbx, rfl⟩))
    · cases h

theorem BoxOk.mono {s : St} {n0 : Nat} {own ks : List Nat} {rows rows' bxs bxs' sm sm' : List Nat} (hr : ∀ k, k ∈ rows → k ∈ rows') (hb : ∀ k, k ∈ bxs → k ∈ bxs') (hsm : ∀ k, k ∈ sm → k ∈ sm') {k : Nat} {b : Box} (h : BoxOk s n0 own ks rows bxs sm k b) : BoxOk s n0 own ks rows' bxs' sm' k b := by
  rcases h with h | ⟨full, et, q, h1, h2⟩ | ⟨ty, cs, cs', h1, h2, h3, h4⟩ | ⟨b0, h1, h2⟩
  · exact .inl h
  · exact .inr (.inl ⟨full, et, q, hr k h1, h2⟩)
  · exact .inr (.inr (.inl ⟨ty, cs, cs', hb k h1, h2, h3, fun w ρ b1 ρ' bU H hl => h4 w ρ b1 ρ' bU H fun k hk => hl k (hsm k hk)⟩))
  · exact .inr (.inr (.inr ⟨b0, hb k h1, h2⟩))

theorem pack_spec {s : St} {n0 : Nat} {own ks : List Nat} : ∀ (is : List Item) (p : PT is) (ks' ow : List Nat) (j : Nat), pack s is = some (p, ks', ow) → (∀ k, k ∈ ks' → k ∈ ks) → (∀ i k, ow[i]? = some k → own[j + i]? = some k) →
    (unpk is p (n0 + j)).2.2 = n0 + j + ow.length ∧ (∀ i, i < ow.length → ∃ b, (n0 + j + i, b) ∈ (unpk is p (n0 + j)).2.1) ∧ (∀ t v, (t, v) ∈ (unpk is p (n0 + j)).1 → RegOf s n0 own ks t v) ∧
      (∀ t, t ∈ itRegs is → ∃ v, (t, v) ∈ (unpk is p (n0 + j)).1) ∧ (∀ k, k ∈ itBoxes is → ∃ b, (k, b) ∈ (unpk is p (n0 + j)).2.1) ∧ ∀ k b, (k, b) ∈ (unpk is p (n0 + j)).2.1 → BoxOk s n0 own ks (itRows is) (itBoxes is) (itSame is) k b
  | [], p, ks', ow, j, h, _, _ => by
    simp only [pack, Option.some.injEq, Prod.mk.injEq] at h
    obtain ⟨_, rfl, rfl⟩ := h
    exact ⟨by simp [unpk], fun i hi => by simp at hi, fun t v hm => by simp [unpk] at hm, fun t ht => by simp [itRegs] at ht, fun k hk => by simp [itBoxes] at hk, fun k b hkb => by simp [unpk] at hkb⟩
  | [i], p, ks', ow, j, h, hks, how => pack1_spec h hks how
  | i :: i' :: is, p, ks', ow, j, h, hks, how => by
    simp only [pack] at h
    split at h
    · cases h
    · rename_i x k1 w1 h1
      split at h
      · cases h
      · rename_i p' k2 w2 h2
        simp only [Option.some.injEq, Prod.mk.injEq] at h
        obtain ⟨rfl, rfl, rfl⟩ := h
        obtain ⟨a1, a2, a3, a4, a5, a6⟩ := pack1_spec (n0 := n0) (j := j) (own := own) (ks := ks) h1 (fun k hk => hks k (by simp [hk])) (fun m k hm => how m k (by rw [List.getElem?_append_left (List.getElem?_eq_some_iff.1 hm).1]; exact hm))
        obtain ⟨c1, c2, c3, c4, c5, c6⟩ := pack_spec (n0 := n0) (own := own) (ks := ks) (i' :: is) p' k2 w2 (j + w1.length) h2 (fun k hk => hks k (by simp [hk])) (fun m k hm => by
          rw [show j + w1.length + m = j + (w1.length + m) by omega]
          exact how (w1.length + m) k (by rw [List.getElem?_append_right (by omega)]; simpa using hm))
        have e1 : (unpk1 i x (n0 + j)).2.2 = n0 + (j + w1.length) := by rw [a1]; omega
        simp only [unpk, e1]
        have hreg : ∀ t, t ∈ itRegs (i :: i' :: is) → t ∈ itRegs [i] ∨ t ∈ itRegs (i' :: is) := fun t ht => by
          unfold itRegs at ht
          cases hl : i.loc <;> rw [hl] at ht <;> simp [itRegs, hl] at ht ⊢ <;> exact ht
        have hbox : ∀ t, t ∈ itBoxes (i :: i' :: is) → t ∈ itBoxes [i] ∨ t ∈ itBoxes (i' :: is) := fun t ht => by
          unfold itBoxes at ht
          cases hl : i.loc <;> rw [hl] at ht <;> simp [itBoxes, hl] at ht ⊢ <;> exact ht
        have hrow1 : ∀ t, t ∈ itRows [i] → t ∈ itRows (i :: i' :: is) := fun t ht => by
          unfold itRows at ht ⊢
          cases hl : i.loc <;> rw [hl] at ht <;> simp [itRows] at ht ⊢ <;> exact .inl ht
        have hrow2 : ∀ t, t ∈ itRows (i' :: is) → t ∈ itRows (i :: i' :: is) := fun t ht => by
          rw [show itRows (i :: i' :: is) = (match i.loc with | .row k _ => k :: itRows (i' :: is) | _ => itRows (i' :: is)) from rfl]
          cases hl : i.loc <;> simp [ht]
        have hbx1 : ∀ t, t ∈ itBoxes [i] → t ∈ itBoxes (i :: i' :: is) := fun t ht => by
          unfold itBoxes at ht ⊢
          cases hl : i.loc <;> rw [hl] at ht <;> simp [itBoxes] at ht ⊢ <;> exact .inl ht
        have hbx2 : ∀ t, t ∈ itBoxes (i' :: is) → t ∈ itBoxes (i :: i' :: is) := fun t ht => by
          rw [show itBoxes (i :: i' :: is) = (match i.loc with | .box k _ => k :: itBoxes (i' :: is) | .row k _ => k :: itBoxes (i' :: is) | .map k _ => k :: itBoxes (i' :: is) | .boxs k _ _ => k :: itBoxes (i' :: is) | .itr k => k :: itBoxes (i' :: is) | _ => itBoxes (i' :: is)) from rfl]
          cases hl : i.loc <;> simp [ht]
        have hsm1 : ∀ t, t ∈ itSame [i] → t ∈ itSame (i :: i' :: is) := fun t ht => by
          unfold itSame at ht ⊢
          cases hl : i.loc <;> rw [hl] at ht <;> simp [itSame] at ht ⊢ <;> exact .inl ht
        have hsm2 : ∀ t, t ∈ itSame (i' :: is) → t ∈ itSame (i :: i' :: is) := fun t ht => by
          rw [show itSame (i :: i' :: is) = (match i.loc with | .boxs _ _ sm => sm.map (·.2.2) ++ itSame (i' :: is) | _ => itSame (i' :: is)) from rfl]
          cases hl : i.loc <;> simp [ht]
        refine ⟨by rw [c1]; simp; omega, fun m hm => ?_, fun t v hv => ?_, fun t ht => ?_, fun k hk => ?_, fun k b hkb => ?_⟩
        · by_cases hlt : m < w1.length
          · obtain ⟨b, hb⟩ := a2 m hlt
            exact ⟨b, List.mem_append_left _ hb⟩
          · obtain ⟨b, hb⟩ := c2 (m - w1.length) (by simp at hm; omega)
            exact ⟨b, List.mem_append_right _ (by rw [show n0 + j + m = n0 + (j + w1.length) + (m - w1.length) by omega]; exact hb)⟩
        · rcases List.mem_append.1 hv with hv | hv
          · exact a3 t v hv
          · exact c3 t v hv
        · rcases hreg t ht with ht | ht
          · obtain ⟨v, hv⟩ := a4 t ht; exact ⟨v, List.mem_append_left _ hv⟩
          · obtain ⟨v, hv⟩ := c4 t ht; exact ⟨v, List.mem_append_right _ hv⟩
        · rcases hbox k hk with hk | hk
          · obtain ⟨v, hv⟩ := a5 k hk; exact ⟨v, List.mem_append_left _ hv⟩
          · obtain ⟨v, hv⟩ := c5 k hk; exact ⟨v, List.mem_append_right _ hv⟩
        · rcases List.mem_append.1 hkb with hkb | hkb
          · exact (a6 k b hkb).mono hrow1 hbx1 hsm1
          · exact (c6 k b hkb).mono hrow2 hbx2 hsm2
end Go.Cm
