/- The abstract machine, third state, part 20: code as a function: loops, joins, callees whose text is entered; the contract of a function out of it. No condition. -/
import Derived.Test.YtibcoiabdnbdjaaDoorCmt
import Derived.Deep.LoopGhost
namespace Go.Cm
open Go.RowKit
set_option linter.unusedSectionVars false
variable [Sig]

inductive Ex where
  | nrm
  | ex (id : Nat)
  | ret
  | pan (v : Value)
  | panP (t : TypeId) (ti : Sig.TI)
def Ex.eqb : Ex → Ex → Bool
  | .nrm, .nrm => true
  | .ex i, .ex j => decide (i = j)
  | .ret, .ret => true
  | _, _ => false
theorem Ex.eqb_spec {x y : Ex} (h : Ex.eqb x y = true) : x = y := by
  cases x <;> cases y <;> first | rfl | (cases h; done) | (simp [Ex.eqb] at h; rw [h])
def exOf : Ex → Exit
  | .nrm => .normal
  | .ex i => .exit i
  | .ret => .ret
  | .pan v => .panic (panE v)
  | .panP .. => .ret
/-- a panic's value as data -/
def decP (t : TypeId) (ti : Sig.TI) : Value → Option (Sig.Car ti)
  | .iface t' u => match decide (t' = t) with
    | false => none
    | true => match Sig.isAgg ti with
      | true => (match u with
        | .agg cs => (match fits (Sig.shp ti) (cs.toList.map (TreeOf.lit : Value → Tree)) with
          | true => some (Sig.dec ti (cs.toList.map (TreeOf.lit : Value → Tree)))
          | false => none)
        | _ => none)
      | false => (match fits (Sig.shp ti) [(TreeOf.lit u : Tree)] with
        | true => some (Sig.dec ti [(TreeOf.lit u : Tree)])
        | false => none)
  | _ => none
theorem decP_spec {t : TypeId} {ti : Sig.TI} {v : Value} {c : Sig.Car ti} (h : decP t ti v = some c) : panV t ti c = v := by
  unfold decP at h
  split at h
  · rename_i t' u
    split at h
    · cases h
    · rename_i ht
      have ht := of_decide_eq_true ht
      subst ht
      unfold panV
      split at h
      · rename_i hag
        split at h
        · rename_i cs
          split at h
          · rename_i hf
            injection h with h
            subst h
            rw [hag, Sig.enc_dec _ _ hf]
            simp only [List.map_map]
            have : (litV ∘ (TreeOf.lit : Value → Tree)) = id := rfl
            rw [this, List.map_id]
          · cases h
        · cases h
      · rename_i hag
        split at h
        · rename_i hf
          injection h with h
          subst h
          rw [hag, Sig.enc_dec _ _ hf]
          rfl
        · cases h
  · cases h

/-! hints: what a loop or a join hands on -/
inductive HI where
  | reg (t : Nat) (ti : Sig.TI) (os : List (Option TypeId))
  | var (t : Nat) (ti : Sig.TI) (os : List (Option TypeId))
  | rowr (t : Nat) (ti : Sig.TI)
  | rowc (t off : Nat) (ti : Sig.TI)
  | mapr (t : Nat) (ti : Sig.TI)
  | itr (t : Nat) (ti : Sig.TI)
  | vars (t : Nat) (ti : Sig.TI) (os : List (Option TypeId)) (sm : List Nat)
structure Hint where
  keep : List Nat
  its : List HI
  outs : List (Ex × List HI)
  drop : List Nat
def rowItem (s : St) (k : Nat) (ti : Sig.TI) : Option Item :=
  match bget s.B k with
  | .row _ et _ => some ⟨.row k et, ti, []⟩
  | _ => none
def sameOf (cs : List AV) : List Nat → Option (List (Nat × Nat × Nat))
  | [] => some []
  | j :: js => match cs[j]?, sameOf cs js with
    | some (.row k), some r => some ((j, 0, k) :: r)
    | some (.selfn k), some r => some ((j, 1, k) :: r)
    | some (.rowz _), some r => some ((j, 2, 0) :: r)
    | _, _ => none
def resI (s : St) : HI → Option Item
  | .reg t ti os => some ⟨.reg t, ti, os⟩
  | .var t ti os => match lk s.R t with
    | .ptr k 0 => match bget s.B k with
      | .var ty _ => some ⟨.box k ty, ti, os⟩
      | _ => none
    | _ => none
  | .rowr t ti => match lk s.R t with
    | .row k => rowItem s k ti
    | _ => none
  | .rowc t off ti => match lk s.R t with
    | .ptr k o => match bget s.B k with
      | .var _ cs => match cs[o + off]? with
        | some (.row j) => rowItem s j ti
        | _ => none
      | _ => none
    | _ => none
  | .vars t ti os sm => match lk s.R t with
    | .ptr k 0 => match bget s.B k with
      | .var ty cs => match sameOf cs sm with
        | some sm' => some ⟨.boxs k ty sm', ti, os⟩
        | none => none
      | _ => none
    | _ => none
  | .mapr t ti => match lk s.R t with
    | .mp k => match bget s.B k with
      | .map kd _ _ => some ⟨.map k kd, ti, []⟩
      | _ => none
    | _ => none
  | .itr t ti => match lk s.R t with
    | .ptr k 0 => match bget s.B k with
      | .iter _ _ => some ⟨.itr k, ti, []⟩
      | _ => none
    | _ => none
def resIs (s : St) : List HI → Option (List Item)
  | [] => some []
  | h :: hs => match resI s h with
    | none => none
    | some i => match resIs s hs with
      | none => none
      | some is => some (i :: is)
def resO (s : St) : List (Ex × List HI) → Option (List (Ex × List Item))
  | [] => some []
  | (x, h) :: hs => match resIs s h with
    | none => none
    | some i => match resO s hs with
      | none => none
      | some is => some ((x, i) :: is)
def ownsIn (s : St) : List AV → List Nat
  | [] => []
  | .row k :: as => (match bget s.B k with
    | .row _ _ _ => k :: ownsIn s as
    | _ => ownsIn s as)
  | _ :: as => ownsIn s as
def ownAt (s : St) (it : Item) : List Nat := match locC s it with
  | none => []
  | some cs => ownsIn s cs
def goneOf (s : St) (its : List Item) : List Nat := ddup (its.flatMap (ownAt s))
/-- own rows in registers that nobody reads any more -/
def dropRows (s : St) (ds : List Nat) : List Nat := ds.flatMap fun r => match lk s.R r with
  | .row k => (match bget s.B k with
    | .row _ _ _ => [k]
    | _ => [])
  | _ => []
def goneH (h : Hint) (s : St) (its : List Item) : List Nat := ddup (goneOf s its ++ dropRows s h.drop)

def killF (keep : List Nat) (p : Nat × AV) : Nat × AV := match keep.contains p.1 with
  | true => p
  | false => (p.1, .dead)
def enter (s : St) (keep : List Nat) : St := ⟨s.fr.filter fun p => !keep.contains p.1, s.fr.map (killF keep) ++ s.tl, [], s.bx ++ s.bt, s.nb⟩
def head (s : St) (keep gone : List Nat) (is : List Item) (p : PT is) : St :=
  ⟨(unpk is p s.nb).1, s.fr.map (killF keep) ++ s.tl, (unpk is p s.nb).2.1 ++ marks gone, s.bx ++ s.bt, (unpk is p s.nb).2.2⟩
def leave (s : St) (keep gone : List Nat) (is : List Item) (p : PT is) : St :=
  ⟨(unpk is p s.nb).1 ++ s.fr.map (killF keep), s.tl, (unpk is p s.nb).2.1 ++ (marks gone ++ s.bx), s.bt, (unpk is p s.nb).2.2⟩
def edgeP (gone : List Nat) (n0 : Nat) (s : St) (is : List Item) : Option (PT is) :=
  match pack s is with
  | none => bad 20
  | some (p, ks, ow) => match edgeOk s.tl s.bt n0 gone is s ks ow with
    | true => some p
    | false => bad 21

def OneT : Ex → List Item → Type
  | .panP _ ti, is => Sig.Car ti × PT is
  | .nrm, is => PT is
  | .ex _, is => PT is
  | .ret, is => PT is
  | .pan _, is => PT is
def oneInj (y x : Ex) (is : List Item) (pk : Option (PT is)) : Option (OneT y is) :=
  match y with
  | .panP t ti => (match x with
    | .pan v => (match decP t ti v with
      | some c => (match pk with
        | some p => some (c, p)
        | none => bad 24)
      | none => bad 63)
    | _ => bad 23)
  | .nrm => (match Ex.eqb .nrm x with
    | true => pk
    | false => bad 23)
  | .ex i => (match Ex.eqb (.ex i) x with
    | true => pk
    | false => bad 23)
  | .ret => (match Ex.eqb .ret x with
    | true => pk
    | false => bad 23)
  | .pan _ => bad 23
def oneCase {A : Type} (y : Ex) (is : List Item) (q : OneT y is) (k : Ex → (is : List Item) → PT is → Option A) : Option A :=
  match y, q with
  | .panP t ti, q => k (.pan (panV t ti q.1)) is q.2
  | .nrm, q => k .nrm is q
  | .ex i, q => k (.ex i) is q
  | .ret, q => k .ret is q
  | .pan v, q => k (.pan v) is q
def fitX : Ex → Ex → Bool
  | .panP .., .pan _ => true
  | y, x => Ex.eqb y x
def OutT : List (Ex × List Item) → Type
  | [] => Empty
  | [o] => OneT o.1 o.2
  | o :: o' :: os => Sum (OneT o.1 o.2) (OutT (o' :: os))
def outInj : (os : List (Ex × List Item)) → Ex → ((is : List Item) → Option (PT is)) → Option (OutT os)
  | [], _, _ => bad 22
  | [o], x, pk => oneInj o.1 x o.2 (pk o.2)
  | o :: o' :: os, x, pk => match fitX o.1 x with
    | true => (match oneInj o.1 x o.2 (pk o.2) with
      | some p => some (Sum.inl p)
      | none => bad 24)
    | false => (match outInj (o' :: os) x pk with
      | some q => some (Sum.inr q)
      | none => bad 25)
def outCase {A : Type} : (os : List (Ex × List Item)) → OutT os → (Ex → (is : List Item) → PT is → Option A) → Option A
  | [], _, _ => bad 26
  | [o], p, k => oneCase o.1 o.2 p k
  | o :: o' :: os, q, k => caseO (α := OneT o.1 o.2) (β := OutT (o' :: os)) q (fun p => oneCase o.1 o.2 p k) (fun q => outCase (o' :: os) q k)

abbrev Runs := (A : Type) → St → (Ex → St → Option A) → Option A
def joinN {A : Type} (h : Hint) (s : St) (run : Runs) (K : Ex → St → Option A) : Option A :=
  match resO (enter s h.keep) h.outs with
  | none => bad 27
  | some outs => match baseOk (s.fr.map (killF h.keep) ++ s.tl) (s.bx ++ s.bt) s.nb with
    | false => bad 28
    | true => bindO (run (OutT outs) (enter s h.keep) fun x s' => outInj outs x (edgeP (goneH h (enter s h.keep) (outs.flatMap (·.2))) s.nb s'))
        fun o => outCase outs o fun x is p => K x (leave s h.keep (goneH h (enter s h.keep) (outs.flatMap (·.2))) is p)
def loopN {A : Type} (N : Nat) (h : Hint) (s : St) (run : Runs) (K : Ex → St → Option A) : Option A :=
  match resIs (enter s h.keep) h.its with
  | none => bad 29
  | some its => match resO (enter s h.keep) h.outs with
    | none => bad 30
    | some outs => match baseOk (s.fr.map (killF h.keep) ++ s.tl) (s.bx ++ s.bt) s.nb with
      | false => bad 31
      | true => match edgeP (goneH h (enter s h.keep) (its ++ outs.flatMap (·.2))) s.nb (enter s h.keep) its with
        | none => bad 32
        | some p0 => bindO (whileF N (fun p => run (Sum (PT its) (OutT outs)) (head s h.keep (goneH h (enter s h.keep) (its ++ outs.flatMap (·.2))) its p) fun x s' => match x with
              | .nrm => (match edgeP (goneH h (enter s h.keep) (its ++ outs.flatMap (·.2))) s.nb s' its with
                | some p' => some (Sum.inl p')
                | none => bad 33)
              | x => (match outInj outs x (edgeP (goneH h (enter s h.keep) (its ++ outs.flatMap (·.2))) s.nb s') with
                | some o => some (Sum.inr o)
                | none => bad 34)) p0)
            fun o => outCase outs o fun x is p => K x (leave s h.keep (goneH h (enter s h.keep) (its ++ outs.flatMap (·.2))) is p)

def eqL : List Nat → List Nat → Bool
  | [], [] => true
  | a :: as, b :: bs => match decide (a = b) with
    | true => eqL as bs
    | false => false
  | _, _ => false
def hintOf : List (List Nat × Hint) → List Nat → Option Hint
  | [], _ => none
  | (p, h) :: r, q => match eqL p q with
    | true => some h
    | false => hintOf r q

/-! results -/
def retV1 (P : Program) (st : St) : ResultVar → Option AV
  | .tmp t => some (lk st.R t)
  | .cell a t => match loadF P t (lk st.R a) st.B with
    | some (none, r, _, _) => some r
    | _ => none
def retV (P : Program) (st : St) : List ResultVar → Option (List AV)
  | [] => some []
  | x :: xs => match retV1 P st x with
    | none => none
    | some a => match retV P st xs with
      | none => none
      | some r => some (a :: r)
def args0 : List AV → Nat → List (Nat × AV)
  | [], _ => []
  | t :: ts, n => (n, t) :: args0 ts (n + 1)

structure Env2 where
  fns : FuncId → Option Func
  H : FuncId → List (List Nat × Hint)

def blkK {A : Type} (id : Nat) (K : Ex → St → Option A) (x : Ex) (s : St) : Option A :=
  match x with
  | .ex i => (match decide (i = id) with
    | true => K .nrm s
    | false => K (.ex i) s)
  | .nrm => K .nrm s
  | .ret => K .ret s
  | .pan v => K (.pan v) s
  | .panP .. => bad 67
def seqK {A : Type} (k : St → Option A) (K : Ex → St → Option A) (x : Ex) (s : St) : Option A :=
  match x with
  | .nrm => k s
  | .ex i => K (.ex i) s
  | .ret => K .ret s
  | .pan v => K (.pan v) s
  | .panP .. => bad 67
def afterOk (ops : Array Oper) (p : Nat) : Bool := (List.range ops.size).all fun j => decide (j ≤ p) || ((Region.before ops).getD j 0).testBit p
def retK {A : Type} (P : Program) (rs : List ResultVar) (k : AV → Bxs → Nat → Option A) (x : Ex) (s : St) : Option A :=
  match x with
  | .ex _ => bad 35
  | .pan _ => bad 64
  | .panP .. => bad 67
  | _ => match retV P s rs with
    | none => bad 36
    | some r => k (oneA r) s.bx s.nb

def ev (cx : Ctx) (e2 : Env2) : Nat → Bool → FuncId → Nat → List Nat → Code → Runs
  | 0, _, _, _, _, _ => fun _ _ _ => bad 37
  | n + 1, raw, f, nt, path, c => fun A s K =>
    let inl : Inl A := inlW fun g args bi nb k => match e2.fns g with
      | none => bad 38
      | some fn => match fn.body with
        | none => bad 39
        | some c => match decide (args.length ≤ fn.ntmps) && !(fn.name == "runtime.NumGoroutine") with
          | false => bad 40
          | true => ev cx e2 n false g fn.ntmps [] c A ⟨args0 args 0, [], [], bi, nb⟩ (retK cx.P fn.results.toList k)
    match raw, hintOf (e2.H f) path with
    | false, some h => (match c with
      | .loop b => loopN cx.N h s (ev cx e2 n false f nt (0 :: path) b) K
      | c => joinN h s (ev cx e2 n true f nt path c) K)
    | _, _ => (match c with
      | .skip => K .nrm s
      | .label _ => K .nrm s
      | .region _ ops false => evOps cx inl nt ops (fun _ v _ st' _ => K (.pan v) st') (fun st' _ => K .nrm st') ops.toList s []
      | .region _ ops true => (match slotsOk ops with
        | true => evOps cx inl nt ops (fun post v _ _ lg => match lg.all (fun x => x.2.isEmpty) && afterOk ops (ops.size - post.length - 1) with
          | true => K (.pan v) (deadR ops s)
          | false => bad 66) (fun st' lg => match boxesOk ops lg with
          | true => K .nrm st'
          | false => bad 41) ops.toList s []
        | false => bad 42)
      | .seq a b => ev cx e2 n false f nt (0 :: path) a A s (seqK (fun s1 => ev cx e2 n false f nt (1 :: path) b A s1 K) K)
      | .cond c x y => (match evA s.R c with
        | .lit (.bool t) => condO t (ev cx e2 n false f nt (0 :: path) x A s K) (ev cx e2 n false f nt (1 :: path) y A s K)
        | _ => bad 43)
      | .block id c => ev cx e2 n false f nt (0 :: path) c A s (blkK id K)
      | .exit id => K (.ex id) s
      | .ret => K .ret s
      | _ => bad 44)

/-! what it says -/
def Outc (P : Program) (nt : Nat) (c : Code) (s : St) (x : Ex) (s' : St) : Prop :=
  ∀ (S : Start) (ds : List Deferred) (a : Act) (w : World), Sim S nt ds s a w → c.wp P (fun e a' w' => e = exOf x ∧ Sim S nt ds s' a' w') a w
structure EvIs (P : Program) (nt : Nat) (c : Code) {A : Type} (s : St) (K : Ex → St → Option A) (a : A) : Prop where
  ex : ∃ x s', K x s' = some a ∧ s'.tl = s.tl ∧ s'.bt = s.bt ∧ s.nb ≤ s'.nb ∧ Outc P nt c s x s'
def RunsOk (P : Program) (nt : Nat) (c : Code) (run : Runs) : Prop := ∀ (A : Type) (s : St) (K : Ex → St → Option A) (a : A), run A s K = some a → EvIs P nt c s K a

theorem Sim.drew {S : Start} {nt : Nat} {ds : List Deferred} {st : St} {a : Act} {w : World} (h : Sim S nt ds st a w) : Sim S nt ds st a w.drew := by
  obtain ⟨⟨ρ, h1, h2, h3⟩, h4, h5⟩ := h
  have hb : Below w.heap.size w w.drew := (Below.refl _ _).drew
  exact ⟨⟨ρ, h1.trans (Ext.world hb), h2.world hb, h3.ext (Ext.world hb)⟩, h4, h5⟩
theorem Sim.same {S : Start} {nt : Nat} {ds : List Deferred} {s u : St} {a : Act} {w : World} (h : Sim S nt ds s a w) (hR : lk u.R = lk s.R) (hB : bget u.B = bget s.B) (hn : s.nb ≤ u.nb) : Sim S nt ds u a w := by
  obtain ⟨⟨ρ, h1, h2, h3⟩, h4, h5⟩ := h
  exact ⟨⟨ρ, by rw [hB]; exact h1, by rw [hB]; exact h2, by rw [hB, hR]; exact h3⟩, h4, Nat.le_trans h5 hn⟩

theorem lk_none : ∀ (a b : List (Nat × AV)) (k : Nat), (∀ v, (k, v) ∉ a) → lk (a ++ b) k = lk b k
  | [], _, _, _ => rfl
  | (j, x) :: a, b, k, h => by
    simp only [List.cons_append, lk]
    rw [if_neg (fun e => h x (by rw [e]; exact List.mem_cons_self ..))]
    exact lk_none a b k fun v hv => h v (List.mem_cons_of_mem _ hv)
theorem lk_kill_in (keep : List Nat) (tl : List (Nat × AV)) (k : Nat) (hk : k ∈ keep) : ∀ fr : List (Nat × AV), lk (fr.map (killF keep) ++ tl) k = lk (fr ++ tl) k
  | [] => rfl
  | (j, x) :: fr => by
    have ih := lk_kill_in keep tl k hk fr
    simp only [List.map_cons, List.cons_append]
    by_cases h : j = k
    · subst h
      have : killF keep (j, x) = (j, x) := by unfold killF; simp only; rw [List.contains_iff_mem.2 hk]
      rw [this]; simp [lk]
    · have h2 : (killF keep (j, x)).1 = j := by unfold killF; split <;> rfl
      generalize hq : killF keep (j, x) = q at h2
      obtain ⟨q1, q2⟩ := q
      simp only at h2
      subst h2
      simp only [lk, if_neg h]
      exact ih
theorem lk_filter_out (keep : List Nat) (rest tl : List (Nat × AV)) (k : Nat) (hk : k ∉ keep) (hr : lk rest k = lk tl k ∨ lk rest k = .dead) : ∀ fr : List (Nat × AV), ((∃ v, (k, v) ∈ fr) ∨ lk rest k = lk tl k) →
    lk (fr.filter (fun p => !keep.contains p.1) ++ rest) k = lk (fr ++ tl) k
  | [], h => by
    rcases h with ⟨v, hv⟩ | h
    · simp at hv
    · exact h
  | (j, x) :: fr, h => by
    by_cases hj : j = k
    · subst hj
      rw [List.filter_cons_of_pos (by simp [hk])]
      simp [lk]
    · have ih := lk_filter_out keep rest tl k hk hr fr (h.imp (fun ⟨v, hv⟩ => ⟨v, by
        rcases List.mem_cons.1 hv with hv | hv
        · injection hv with e; exact absurd e.symm hj
        · exact hv⟩) id)
      simp only [List.cons_append, lk, if_neg hj]
      by_cases hc : keep.contains j = true
      · rw [List.filter_cons_of_neg (by simpa using hc)]; exact ih
      · rw [List.filter_cons_of_pos (by simpa using hc), List.cons_append]
        simp only [lk, if_neg hj]
        exact ih
theorem lk_enter (s : St) (keep : List Nat) : lk (enter s keep).R = lk s.R := by
  funext k
  show lk (s.fr.filter (fun p => !keep.contains p.1) ++ (s.fr.map (killF keep) ++ s.tl)) k = lk (s.fr ++ s.tl) k
  by_cases hk : k ∈ keep
  · rw [lk_none _ _ _ (fun v hv => by
      have := (List.mem_filter.1 hv).2
      simp [hk] at this)]
    exact lk_kill_in keep s.tl k hk s.fr
  · by_cases hm : ∃ v, (k, v) ∈ s.fr
    · refine lk_filter_out keep _ s.tl k hk ?_ s.fr (.inl hm)
      obtain ⟨v, hv⟩ := hm
      refine .inr ?_
      -- the first entry of k is dead
      have : ∀ fr : List (Nat × AV), (∃ v, (k, v) ∈ fr) → lk (fr.map (killF keep) ++ s.tl) k = .dead := by
        intro fr
        induction fr with
        | nil => rintro ⟨v, hv⟩; simp at hv
        | cons p fr ih =>
          obtain ⟨j, x⟩ := p
          rintro ⟨v, hv⟩
          have hc : keep.contains k = false := by
            cases hc : keep.contains k with
            | false => rfl
            | true => exact absurd (List.contains_iff_mem.1 hc) hk
          simp only [List.map_cons, List.cons_append]
          by_cases hj : j = k
          · subst hj
            have : killF keep (j, x) = (j, .dead) := by unfold killF; simp only; rw [hc]
            rw [this]; simp [lk]
          · have h2 : (killF keep (j, x)).1 = j := by unfold killF; split <;> rfl
            generalize hq : killF keep (j, x) = q at h2
            obtain ⟨q1, q2⟩ := q
            simp only at h2
            subst h2
            simp only [lk, if_neg hj]
            refine ih ⟨v, ?_⟩
            rcases List.mem_cons.1 hv with hv | hv
            · injection hv with e; exact absurd e.symm hj
            · exact hv
      exact this s.fr ⟨v, hv⟩
    · have hno : ∀ v, (k, v) ∉ s.fr := fun v hv => hm ⟨v, hv⟩
      have hno2 : ∀ v, (k, v) ∉ s.fr.map (killF keep) := fun v hv => by
        obtain ⟨⟨j, x⟩, hp, he⟩ := List.mem_map.1 hv
        have h2 : (killF keep (j, x)).1 = j := by unfold killF; split <;> rfl
        rw [he] at h2
        simp only at h2
        subst h2
        exact hno x hp
      rw [lk_none _ _ _ (fun v hv => hno v (List.mem_filter.1 hv).1), lk_none _ _ _ hno2, lk_none _ _ _ hno]
theorem Sim.enter {S : Start} {nt : Nat} {ds : List Deferred} {s : St} {a : Act} {w : World} (h : Sim S nt ds s a w) (keep : List Nat) : Sim S nt ds (Cm.enter s keep) a w :=
  h.same (lk_enter s keep) rfl (Nat.le_refl _)

theorem edgeP_sim {S : Start} {nt : Nat} {ds : List Deferred} {s s' : St} {a : Act} {w : World} (h : Sim S nt ds s' a w) {keep gone : List Nat} {is : List Item} {p : PT is} (hp : edgeP gone s.nb s' is = some p) (hn : S.n ≤ s.nb)
    (htl : s'.tl = s.fr.map (killF keep) ++ s.tl) (hbt : s'.bt = s.bx ++ s.bt) (hbase : baseOk (s.fr.map (killF keep) ++ s.tl) (s.bx ++ s.bt) s.nb = true) :
    Sim S nt ds (head s keep gone is p) a w ∧ Sim S nt ds (leave s keep gone is p) a w ∧ s.nb ≤ (leave s keep gone is p).nb := by
  unfold edgeP at hp
  split at hp
  · cases hp
  · rename_i p' ks ow hpk
    split at hp
    · rename_i hed
      injection hp with hp
      subst hp
      have hle : s.nb ≤ (unpk is p' s.nb).2.2 := by
        obtain ⟨e, _⟩ := pack_spec (n0 := s.nb) (own := ow) (ks := ks) is p' ks ow 0 hpk (fun _ h => h) (fun i k hi => by rw [Nat.zero_add]; exact hi)
        simp only [Nat.add_zero] at e
        omega
      rw [← htl, ← hbt] at hbase
      refine ⟨h.edge hpk hbase hed hn ?_ ?_ (Nat.le_trans hn hle), h.edge hpk hbase hed hn ?_ ?_ (Nat.le_trans hn hle), hle⟩
      · rw [htl]; rfl
      · rw [hbt]; show bget (((unpk is p' s.nb).2.1 ++ marks gone) ++ (s.bx ++ s.bt)) = _; rw [List.append_assoc]
      · rw [htl]; show lk (((unpk is p' s.nb).1 ++ s.fr.map (killF keep)) ++ s.tl) = _; rw [List.append_assoc]
      · rw [hbt]; show bget (((unpk is p' s.nb).2.1 ++ (marks gone ++ s.bx)) ++ s.bt) = _; rw [List.append_assoc, List.append_assoc]
    · cases hp

theorem oneInj_spec {y x : Ex} {is : List Item} {pk : Option (PT is)} {q : OneT y is} (h : oneInj y x is pk = some q) : ∃ p, pk = some p ∧ ∀ (A : Type) (k : Ex → (is : List Item) → PT is → Option A), oneCase y is q k = k x is p := by
  cases y with
  | panP t ti =>
    simp only [oneInj] at h
    split at h
    · rename_i v
      split at h
      · rename_i c hc
        split at h
        · rename_i p
          injection h with h
          subst h
          refine ⟨p, rfl, fun A k => ?_⟩
          show k (.pan (panV t ti c)) is p = _
          rw [decP_spec hc]
        · cases h
      · cases h
    · cases h
  | nrm =>
    simp only [oneInj] at h
    split at h
    · rename_i he
      have := Ex.eqb_spec he
      subst this
      exact ⟨q, h, fun A k => rfl⟩
    · cases h
  | ex i =>
    simp only [oneInj] at h
    split at h
    · rename_i he
      have := Ex.eqb_spec he
      subst this
      exact ⟨q, h, fun A k => rfl⟩
    · cases h
  | ret =>
    simp only [oneInj] at h
    split at h
    · rename_i he
      have := Ex.eqb_spec he
      subst this
      exact ⟨q, h, fun A k => rfl⟩
    · cases h
  | pan v => cases h
theorem outInj_spec : ∀ (os : List (Ex × List Item)) (x : Ex) (pk : (is : List Item) → Option (PT is)) (o : OutT os), outInj os x pk = some o →
    ∃ is p, pk is = some p ∧ ∀ (A : Type) (k : Ex → (is : List Item) → PT is → Option A), outCase os o k = k x is p
  | [], x, pk, o, h => by cases h
  | [(y, is)], x, pk, o, h => by
    obtain ⟨p, hp, hk⟩ := oneInj_spec (y := y) (is := is) h
    exact ⟨is, p, hp, hk⟩
  | (y, is) :: o' :: os, x, pk, o, h => by
    simp only [outInj] at h
    split at h
    · split at h
      · rename_i q hq
        injection h with h
        subst h
        obtain ⟨p, hp, hk⟩ := oneInj_spec (y := y) (is := is) hq
        exact ⟨is, p, hp, fun A k => hk A k⟩
      · cases h
    · split at h
      · rename_i q hq
        injection h with h
        subst h
        obtain ⟨is', p, hp, hk⟩ := outInj_spec (o' :: os) x pk q hq
        exact ⟨is', p, hp, fun A k => hk A k⟩
      · cases h

theorem joinN_sound {P : Program} {nt : Nat} {c : Code} {run : Runs} (hrun : RunsOk P nt c run) {A : Type} {h : Hint} {s : St} {K : Ex → St → Option A} {a : A} (he : joinN h s run K = some a) : EvIs P nt c s K a := by
  unfold joinN at he
  split at he
  · cases he
  · rename_i outs ho
    split at he
    · cases he
    · rename_i hbase
      obtain ⟨o, h1, h2⟩ := bindO_some he
      obtain ⟨x, s', hx, ht, hb, hn, hO⟩ := (hrun _ _ _ _ h1).ex
      obtain ⟨is, p, hp, hk⟩ := outInj_spec outs x _ o hx
      rw [hk] at h2
      have hnb : ∀ (S : Start) (ds : List Deferred) (a : Act) (w : World), Sim S nt ds s a w → S.n ≤ s.nb := fun S ds a w hs => hs.nb
      refine ⟨x, _, h2, rfl, rfl, ?_, fun S ds a w hs => ?_⟩
      · unfold edgeP at hp
        split at hp
        · cases hp
        · rename_i p' ks ow hpk
          split at hp
          · injection hp with hp
            subst hp
            obtain ⟨e, _⟩ := pack_spec (n0 := s.nb) (own := ow) (ks := ks) is p' ks ow 0 hpk (fun _ h => h) (fun i k hi => by rw [Nat.zero_add]; exact hi)
            simp only [Nat.add_zero] at e
            show s.nb ≤ (unpk is p' s.nb).2.2
            omega
          · cases hp
      · refine wp_mono (hO S ds a w (hs.enter h.keep)) fun e a' w' ⟨he, hs'⟩ => ⟨he, ?_⟩
        exact (edgeP_sim hs' hp hs.nb ht hb hbase).2.1

theorem loopN_sound {P : Program} {nt : Nat} {c : Code} {run : Runs} (hrun : RunsOk P nt c run) {A : Type} {N : Nat} {h : Hint} {s : St} {K : Ex → St → Option A} {a : A} (he : loopN N h s run K = some a) : EvIs P nt (.loop c) s K a := by
  unfold loopN at he
  split at he
  · cases he
  · rename_i its hits
    split at he
    · cases he
    · rename_i outs ho
      split at he
      · cases he
      · rename_i hbase
        generalize hgone : goneH h (enter s h.keep) (its ++ outs.flatMap (·.2)) = gone at he
        split at he
        · cases he
        · rename_i p0 hp0
          obtain ⟨o, h1, h2⟩ := bindO_some he
          generalize hbody : (fun p => run (Sum (PT its) (OutT outs)) (head s h.keep gone its p) fun x s' => match x with
              | .nrm => (match edgeP gone s.nb s' its with
                | some p' => some (Sum.inl p')
                | none => bad 33)
              | x => (match outInj outs x (edgeP gone s.nb s') with
                | some o => some (Sum.inr o)
                | none => bad 34)) = body at h1
          -- one round
          have round : ∀ p r, body p = some r → ∃ x s', Outc P nt c (head s h.keep gone its p) x s' ∧ s'.tl = s.fr.map (killF h.keep) ++ s.tl ∧ s'.bt = s.bx ++ s.bt ∧
              ((x = .nrm ∧ ∃ p', r = Sum.inl p' ∧ edgeP gone s.nb s' its = some p') ∨ (x ≠ .nrm ∧ ∃ o, r = Sum.inr o ∧ outInj outs x (edgeP gone s.nb s') = some o)) := by
            intro p r hr
            rw [← hbody] at hr
            obtain ⟨x, s', hx, ht, hb, hn, hO⟩ := (hrun _ _ _ _ hr).ex
            refine ⟨x, s', hO, ht, hb, ?_⟩
            split at hx
            · split at hx
              · rename_i p' hp'
                injection hx with hx
                exact .inl ⟨rfl, p', hx.symm, hp'⟩
              · cases hx
            · rename_i hne
              split at hx
              · rename_i o' ho'
                injection hx with hx
                exact .inr ⟨fun e => hne e, o', hx.symm, ho'⟩
              · cases hx
          -- the end is the same, whatever the round
          have hend : ∀ n p, whileF n body p = some o → ∃ x is q, (∀ (A : Type) (k : Ex → (is : List Item) → PT is → Option A), outCase outs o k = k x is q) ∧ s.nb ≤ (leave s h.keep gone is q).nb := by
            intro n
            induction n with
            | zero => intro p hp; cases hp
            | succ n ih =>
              intro p hp
              rw [whileF_succ] at hp
              obtain ⟨r, hr, hp⟩ := Option.bind_eq_some_iff.1 hp
              obtain ⟨x, s', hO, ht, hb, ⟨_, p', rfl, _⟩ | ⟨hne, o', rfl, ho'⟩⟩ := round p r hr
              · exact ih p' hp
              · have hp : some o' = some o := hp
                injection hp with hp
                subst hp
                obtain ⟨is, q, hq, hk⟩ := outInj_spec outs x _ o' ho'
                refine ⟨x, is, q, hk, ?_⟩
                unfold edgeP at hq
                split at hq
                · cases hq
                · rename_i q' ks ow hpk
                  split at hq
                  · injection hq with hq
                    subst hq
                    obtain ⟨e, _⟩ := pack_spec (n0 := s.nb) (own := ow) (ks := ks) is q' ks ow 0 hpk (fun _ h => h) (fun i k hi => by rw [Nat.zero_add]; exact hi)
                    simp only [Nat.add_zero] at e
                    show s.nb ≤ (unpk is q' s.nb).2.2
                    omega
                  · cases hq
          obtain ⟨x, is, q, hk, hle⟩ := hend N p0 h1
          rw [hk] at h2
          refine ⟨x, _, h2, rfl, rfl, hle, fun S ds a0 w0 hs => ?_⟩
          have hn := hs.nb
          refine wp_loop_ghost (fun n a w => ∃ p, whileF n body p = some o ∧ Sim S nt ds (head s h.keep gone its p) a w) N ⟨p0, h1, ?_⟩ fun n a w ⟨p, hp, hsp⟩ => ?_
          · exact (edgeP_sim (hs.enter h.keep) hp0 hn rfl rfl hbase).1
          · cases n with
            | zero => cases hp
            | succ n =>
              rw [whileF_succ] at hp
              obtain ⟨r, hr, hp⟩ := Option.bind_eq_some_iff.1 hp
              obtain ⟨x', s', hO, ht, hb, hcase⟩ := round p r hr
              refine wp_mono (hO S ds a w hsp) fun e a' w' ⟨hex, hs'⟩ => ?_
              rcases hcase with ⟨hx, p', rfl, hp'⟩ | ⟨hne, o', rfl, ho'⟩
              · subst hx
                rw [hex]
                exact ⟨n, Nat.lt_succ_self n, p', hp, (edgeP_sim hs' hp' hn ht hb hbase).1⟩
              · have hp : some o' = some o := hp
                injection hp with hp
                subst hp
                obtain ⟨is', q', hq', hk'⟩ := outInj_spec outs x' _ o' ho'
                -- the same exit and values
                have hsame : (x', (⟨is', q'⟩ : (is : List Item) × PT is)) = (x, ⟨is, q⟩) := by
                  have e1 := hk' (Ex × ((is : List Item) × PT is)) (fun x is p => some (x, ⟨is, p⟩))
                  have e2 := hk (Ex × ((is : List Item) × PT is)) (fun x is p => some (x, ⟨is, p⟩))
                  rw [e1] at e2
                  injection e2
                injection hsame with e1 e2
                subst e1
                injection e2 with e3 e4
                subst e3
                have e4 := eq_of_heq e4
                subst e4
                have hsim := (edgeP_sim hs' hq' hn ht hb hbase).2.1
                rw [hex]
                cases x' with
                | nrm => exact absurd rfl hne
                | ex i => exact ⟨rfl, hsim⟩
                | ret => exact ⟨rfl, hsim⟩
                | pan v => exact ⟨rfl, hsim⟩
                | panP t ti => exact ⟨rfl, hsim⟩
end Go.Cm
