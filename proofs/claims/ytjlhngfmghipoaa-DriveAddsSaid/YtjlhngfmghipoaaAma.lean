/- The abstract machine, part 10: code, and the contract of a function out of its body. No condition. -/
import Derived.Test.YtjlhngfmghipoaaAm9
import Derived.Deep.LoopGhost
namespace Go.Am
open Go.RowKit

def keepOf : List (Nat × List Nat) → Nat → Option (List Nat)
  | [], _ => none
  | (i, l) :: r, id => if i = id then some l else keepOf r id
def keepFr (l : List Nat) : List (Nat × AV) → List (Nat × AV)
  | [] => []
  | (s, v) :: r => if s ∈ l then (s, v) :: keepFr l r else keepFr l r
/-- slots that are not read later are forgotten -/
def prune (kp : List (Nat × List Nat)) (id : Nat) (st : St) : St :=
  match keepOf kp id with
  | none => st
  | some l => ⟨keepFr l st.fr, st.bx⟩
def thenA (next : St → Prop) (Q : Exit → St → Prop) : Exit → St → Prop
  | .normal, s => next s
  | e, s => Q e s
def blockA (id : Nat) (Q : Exit → St → Prop) : Exit → St → Prop
  | .exit id', s => if id' = id then Q .normal s else Q (.exit id') s
  | e, s => Q e s

/-! boxes that nothing leads to are forgotten at a loop -/
def blw0 (R : Nat) : AV → Bool
  | .row k => decide (k < R)
  | .ptr k _ => decide (k < R)
  | .rp k _ _ _ => decide (k < R)
  | .agg _ => false
  | .tup _ => false
  | .clo _ _ => false
  | _ => true
def blw1 (R : Nat) : AV → Bool
  | .agg cs => cs.all (blw0 R)
  | .tup cs => cs.all (blw0 R)
  | .clo _ cs => cs.all (blw0 R)
  | t => blw0 R t
def blw2 (R : Nat) : AV → Bool
  | .agg cs => cs.all (blw1 R)
  | .tup cs => cs.all (blw1 R)
  | .clo _ cs => cs.all (blw1 R)
  | t => blw1 R t
def Box.blw (R : Nat) : Box → Bool
  | .var _ cs => cs.all (blw2 R)
  | _ => true
def trimOk (R : Nat) (st : St) : Bool := st.fr.all (fun p => blw2 R p.2) && (st.bx.take R).all (Box.blw R)
def trimAt (st : St) : Nat → Nat → Nat
  | 0, R => R
  | n + 1, R => if trimOk R st = true then R else trimAt st n (R + 1)
def trim (st : St) : St :=
  let R := trimAt st st.bx.length 0
  if trimOk R st = true then ⟨st.fr, st.bx.take R⟩ else st

/-- a loop: a relation with a number that goes down -/
structure LoopR (body : (St → Prop) → St → Prop) (st : St) : Prop where
  ex : ∃ (I : Nat → St → Prop) (n : Nat), I n (trim st) ∧ ∀ n s, I n s → body (fun s' => ∃ n', n' < n ∧ I n' (trim s')) s

def wpC (Γ : Gam) (P : Program) (nt : Nat) (kp : List (Nat × List Nat)) : Code → (Exit → St → Prop) → St → Prop
  | .skip, Q, st => Q .normal st
  | .region id ops false, Q, st => wpOpsA Γ P nt ops (fun st' _ => Q .normal (prune kp id st')) ops.toList st []
  | .region id ops true, Q, st => br (slotsOk ops) (wpOpsA Γ P nt ops (fun st' lg => br (boxesOk ops lg) (Q .normal (prune kp id st')) False) ops.toList st []) False
  | .seq a b, Q, st => wpC Γ P nt kp a (thenA (wpC Γ P nt kp b Q) Q) st
  | .cond c x y, Q, st => match evA st.fr c with
    | .lit (.bool t) => br t (wpC Γ P nt kp x Q st) (wpC Γ P nt kp y Q st)
    | _ => False
  | .block id c, Q, st => wpC Γ P nt kp c (blockA id Q) st
  | .loop c, Q, st => LoopR (fun next s => wpC Γ P nt kp c (thenA next Q) s) st
  | .exit id, Q, st => Q (.exit id) st
  | .ret, Q, st => Q .ret st
  | .label _, Q, st => Q .normal st
  | _, _, _ => False

theorem lk_keep (l : List Nat) (fr : List (Nat × AV)) (s : Nat) : lk (keepFr l fr) s = lk fr s ∨ lk (keepFr l fr) s = .dead := by
  induction fr with
  | nil => exact .inl rfl
  | cons p r ih =>
    obtain ⟨k, v⟩ := p
    simp only [keepFr]
    by_cases hk : k ∈ l
    · rw [if_pos hk]
      simp only [lk]
      by_cases h : k = s
      · rw [if_pos h, if_pos h]; exact .inl rfl
      · rw [if_neg h, if_neg h]; exact ih
    · rw [if_neg hk]
      simp only [lk]
      by_cases h : k = s
      · subst h
        refine .inr ?_
        clear ih
        induction r with
        | nil => rfl
        | cons q r ih2 =>
          obtain ⟨k', v'⟩ := q
          simp only [keepFr]
          by_cases hk' : k' ∈ l
          · rw [if_pos hk']
            simp only [lk]
            rw [if_neg (fun e => hk (by rw [← e]; exact hk'))]
            exact ih2
          · rw [if_neg hk']; exact ih2
      · rw [if_neg h]; exact ih

theorem Sim.prune {B0 : Nat} {w0 : World} {nt : Nat} {ds : List Deferred} {st : St} {a : Act} {w : World} (h : Sim B0 w0 nt ds st a w) (kp : List (Nat × List Nat)) (id : Nat) : Sim B0 w0 nt ds (Am.prune kp id st) a w := by
  unfold Am.prune
  split
  · exact h
  · rename_i l _
    obtain ⟨h1, ⟨ρ, h2, h3⟩, h4⟩ := h
    refine ⟨h1, ⟨ρ, h2, h3.1, fun s => ?_⟩, h4⟩
    rcases lk_keep l st.fr s with h | h
    · simp only [h]; exact h3.2 s
    · simp only [h]; exact .dead _

theorem Sim.drew {B0 : Nat} {w0 : World} {nt : Nat} {ds : List Deferred} {st : St} {a : Act} {w : World} (h : Sim B0 w0 nt ds st a w) : Sim B0 w0 nt ds st a w.drew := by
  obtain ⟨h1, ⟨ρ, h2, h3⟩, h4⟩ := h
  have hb : Below w.heap.size w w.drew := (Below.refl _ _).drew
  exact ⟨h1.drew, ⟨ρ, h2.world hb, h3.ext (Ext.world hb h2.base)⟩, h4⟩

section
variable {B0 : Nat} {w : World} {ρ : Env} {bx bx' : Nat → Box} {R : Nat}
theorem okS_sub (hm : ∀ b, Mut ρ bx' b → Mut ρ bx b) {fl : Bool} {b : Nat} (h : okS B0 ρ bx fl b) : okS B0 ρ bx' fl b := ⟨fun h' => h.1 (hm b h'), h.2⟩
theorem Rep.blw0 (hbx : ∀ k, k < R → bx' k = bx k) (hm : ∀ b, Mut ρ bx' b → Mut ρ bx b) {v : Value} {t : AV} (h : Rep B0 w ρ bx v t) (ht : Am.blw0 R t = true) : Rep B0 w ρ bx' v t := by
  cases h with
  | lit v => exact .lit v
  | agg => cases ht
  | tup => cases ht
  | sl fl L v r => exact .sl fl L v (r.ext fun b hb _ => ⟨rfl, okS_sub hm hb⟩)
  | e0 a => exact .e0 a
  | row k v hmk hs hv =>
    have hk : k < R := by simpa [Am.blw0] using ht
    exact .row k v (by rw [hbx k hk]; exact hmk) hs hv
  | ptr k off v hmk hv =>
    have hk : k < R := by simpa [Am.blw0] using ht
    exact .ptr k off v (by rw [hbx k hk]; exact hmk) hv
  | rp k sz i j v hmk hv =>
    have hk : k < R := by simpa [Am.blw0] using ht
    exact .rp k sz i j v (by rw [hbx k hk]; exact hmk) hv
  | ep fl b o cs j f hc hr => exact .ep fl b o cs j f (fun i t hi => ⟨okS_sub hm (hc i t hi).1, (hc i t hi).2⟩) (fun i t hi => (hr i t hi).ext fun b hb _ => ⟨rfl, okS_sub hm hb⟩)
  | clo => cases ht
  | dead v => exact .dead v
theorem Rep.blwL (g : AV → Bool) (hg : ∀ {v t}, Rep B0 w ρ bx v t → g t = true → Rep B0 w ρ bx' v t) {vs : List Value} {ts : List AV} (hr : ∀ (i : Nat) (v : Value) (t : AV), vs[i]? = some v → ts[i]? = some t → Rep B0 w ρ bx v t) (ht : ts.all g = true) :
    ∀ (i : Nat) (v : Value) (t : AV), vs[i]? = some v → ts[i]? = some t → Rep B0 w ρ bx' v t :=
  fun i v t h1 h2 => hg (hr i v t h1 h2) (List.all_eq_true.1 ht t (List.mem_of_getElem? h2))
theorem Rep.blw1 (hbx : ∀ k, k < R → bx' k = bx k) (hm : ∀ b, Mut ρ bx' b → Mut ρ bx b) {v : Value} {t : AV} (h : Rep B0 w ρ bx v t) (ht : Am.blw1 R t = true) : Rep B0 w ρ bx' v t := by
  cases h with
  | agg vs ts hl hr => exact .agg vs ts hl (Rep.blwL (Am.blw0 R) (fun h => h.blw0 hbx hm) hr ht)
  | tup vs ts hl hr => exact .tup vs ts hl (Rep.blwL (Am.blw0 R) (fun h => h.blw0 hbx hm) hr ht)
  | clo f vs ts hl hr => exact .clo f vs ts hl (Rep.blwL (Am.blw0 R) (fun h => h.blw0 hbx hm) hr ht)
  | lit v => exact .lit v
  | sl fl L v r => exact Rep.blw0 hbx hm (.sl fl L v r) ht
  | e0 a => exact .e0 a
  | row k v hmk hs hv => exact Rep.blw0 hbx hm (.row k v hmk hs hv) ht
  | ptr k off v hmk hv => exact Rep.blw0 hbx hm (.ptr k off v hmk hv) ht
  | rp k sz i j v hmk hv => exact Rep.blw0 hbx hm (.rp k sz i j v hmk hv) ht
  | ep fl b o cs j f hc hr => exact Rep.blw0 hbx hm (.ep fl b o cs j f hc hr) ht
  | dead v => exact .dead v
theorem Rep.blw2 (hbx : ∀ k, k < R → bx' k = bx k) (hm : ∀ b, Mut ρ bx' b → Mut ρ bx b) {v : Value} {t : AV} (h : Rep B0 w ρ bx v t) (ht : Am.blw2 R t = true) : Rep B0 w ρ bx' v t := by
  cases h with
  | agg vs ts hl hr => exact .agg vs ts hl (Rep.blwL (Am.blw1 R) (fun h => h.blw1 hbx hm) hr ht)
  | tup vs ts hl hr => exact .tup vs ts hl (Rep.blwL (Am.blw1 R) (fun h => h.blw1 hbx hm) hr ht)
  | clo f vs ts hl hr => exact .clo f vs ts hl (Rep.blwL (Am.blw1 R) (fun h => h.blw1 hbx hm) hr ht)
  | lit v => exact .lit v
  | sl fl L v r => exact Rep.blw0 hbx hm (.sl fl L v r) ht
  | e0 a => exact .e0 a
  | row k v hmk hs hv => exact Rep.blw0 hbx hm (.row k v hmk hs hv) ht
  | ptr k off v hmk hv => exact Rep.blw0 hbx hm (.ptr k off v hmk hv) ht
  | rp k sz i j v hmk hv => exact Rep.blw0 hbx hm (.rp k sz i j v hmk hv) ht
  | ep fl b o cs j f hc hr => exact Rep.blw0 hbx hm (.ep fl b o cs j f hc hr) ht
  | dead v => exact .dead v
end

theorem lk_blw {R : Nat} {fr : List (Nat × AV)} (h : fr.all (fun p => Am.blw2 R p.2) = true) (s : Nat) : Am.blw2 R (lk fr s) = true := by
  induction fr with
  | nil => rfl
  | cons p r ih =>
    simp only [List.all_cons, Bool.and_eq_true] at h
    simp only [lk]
    split
    · exact h.1
    · exact ih h.2

theorem Sim.trim {B0 : Nat} {w0 : World} {nt : Nat} {ds : List Deferred} {st : St} {a : Act} {w : World} (h : Sim B0 w0 nt ds st a w) : Sim B0 w0 nt ds (Am.trim st) a w := by
  unfold Am.trim
  simp only
  split
  · rename_i hok
    generalize trimAt st st.bx.length 0 = R at hok
    unfold trimOk at hok
    simp only [Bool.and_eq_true] at hok
    obtain ⟨hfr, hbx⟩ := hok
    obtain ⟨h1, ⟨ρ, hs, hf⟩, h3⟩ := h
    have hlt : ∀ k, k < R → bget (st.bx.take R) k = bget st.bx k := fun k hk => by
      simp [bget, List.getD, hk]
    have hge : ∀ k, R ≤ k → bget (st.bx.take R) k = .nil := fun k hk => by
      simp [bget, List.getD, List.getElem?_take, Nat.not_lt.2 hk]
    have hown : ∀ k b, own ρ (bget (st.bx.take R)) k = some b → own ρ (bget st.bx) k = some b := fun k b hb => by
      by_cases hk : k < R
      · unfold own at hb ⊢; rw [hlt k hk] at hb; exact hb
      · unfold own at hb; rw [hge k (Nat.le_of_not_lt hk)] at hb; cases hb
    have hmut : ∀ b, Mut ρ (bget (st.bx.take R)) b → Mut ρ (bget st.bx) b := fun b ⟨k, hk⟩ => ⟨k, hown k b hk⟩
    refine ⟨h1, ⟨ρ, ⟨hs.base, fun k => ?_, fun k k' b e1 e2 => hs.inj k k' b (hown k b e1) (hown k' b e2)⟩, hf.1, fun s => (hf.2 s).blw2 hlt hmut (lk_blw hfr s)⟩, h3⟩
    by_cases hk : k < R
    · rw [hlt k hk]
      have hb := hs.box k
      cases hbk : bget st.bx k with
      | var ty cs =>
        rw [hbk] at hb
        obtain ⟨g1, vs, g2, g3⟩ := hb
        have hmem : Box.var ty cs ∈ st.bx.take R := by
          have hk' : k < st.bx.length := by
            rcases Nat.lt_or_ge k st.bx.length with h' | h'
            · exact h'
            · simp [bget, List.getD, List.getElem?_eq_none h'] at hbk
          have : st.bx[k]? = some (.var ty cs) := by
            simp [bget, List.getD, List.getElem?_eq_getElem hk'] at hbk ⊢; exact hbk
          exact List.mem_of_getElem? (i := k) (by rw [List.getElem?_take, if_pos hk]; exact this)
        have hall := List.all_eq_true.1 hbx _ hmem
        exact ⟨g1, vs, g2, g3.1, Rep.blwL (Am.blw2 R) (fun h => h.blw2 hlt hmut) g3.2 hall⟩
      | row fl e sz L =>
        rw [hbk] at hb
        obtain ⟨xs, g1, g2, g3, g4⟩ := hb
        exact ⟨xs, g1, g2, g3.ext fun b hb _ => ⟨rfl, okS_sub hmut hb⟩, g4⟩
      | gone => trivial
      | nil => trivial
    · rw [hge k (Nat.le_of_not_lt hk)]; trivial
  · exact h

def Lift (B0 : Nat) (w0 : World) (nt : Nat) (ds : List Deferred) (Q : Exit → St → Prop) : Exit → Act → World → Prop :=
  fun e a w => ∃ st, Q e st ∧ Sim B0 w0 nt ds st a w

theorem wpC_sound {Γ : Gam} {P : Program} {nt : Nat} {kp : List (Nat × List Nat)} {B0 : Nat} {w0 : World} {ds : List Deferred} (hm : P.follows .mixedOrders = true) :
    ∀ (c : Code) (Q : Exit → St → Prop) (st : St), wpC Γ P nt kp c Q st → ∀ a w, Sim B0 w0 nt ds st a w → c.wp P (Lift B0 w0 nt ds Q) a w := by
  intro c
  induction c with
  | skip => intro Q st h a w hs; exact wp_skip ⟨st, h, hs⟩
  | region id ops d =>
    intro Q st h a w hs
    cases d with
    | false =>
      simp only [wpC] at h
      obtain ⟨tr, st', htr, hk⟩ := wpOpsA_traced _ _ _ h
      refine wp_region ?_
      rw [List.range_eq_range']
      exact traced_seq ops.toList 0 _ _ tr (fun j => by simp) htr (fun a w hs => ⟨_, hk, hs.prune kp id⟩) a w hs.below hs.ex hs.defers
    | true =>
      simp only [wpC] at h
      have tf : ∀ {b : Bool} {x : Prop}, br b x False → b = true ∧ x := fun {b x} h => by cases b; exact h.elim; exact ⟨rfl, h⟩
      obtain ⟨hsl, h⟩ := tf h
      obtain ⟨tr, st', htr, hk⟩ := wpOpsA_traced _ _ _ h
      obtain ⟨hbo, hk⟩ := tf hk
      refine wp_region_any hm ?_
      rw [List.append_nil] at hbo
      exact traced_any htr hsl hbo (fun a w hs => ⟨_, hk, hs.prune kp id⟩) a w.drew hs.drew
  | seq x y ihx ihy =>
    intro Q st h a w hs
    simp only [wpC] at h
    refine wp_seq (wp_mono (ihx _ st h a w hs) fun e a w ⟨st', hq, hs'⟩ => ?_)
    cases e with
    | normal => exact ihy Q st' hq a w hs'
    | _ => exact ⟨st', hq, hs'⟩
  | cond c x y ihx ihy =>
    intro Q st h a w hs
    simp only [wpC] at h
    split at h
    · rename_i t ht
      have hs0 := hs
      obtain ⟨_, ⟨ρ, h2, h3⟩, _⟩ := hs0
      have hev := h3.eval c
      rw [← evA_eq, ht] at hev
      exact wp_cond_split hev.inv_lit (fun e => ihx Q st ((br_elim h).1 e) a w hs) (fun e => ihy Q st ((br_elim h).2 e) a w hs)
    · exact h.elim
  | block id c ih =>
    intro Q st h a w hs
    simp only [wpC] at h
    refine wp_block (wp_mono (ih _ st h a w hs) fun e a w ⟨st', hq, hs'⟩ => ?_)
    cases e with
    | exit id' =>
      simp only [blockA] at hq
      simp only [Exit.inBlock]
      split
      · rename_i he
        rw [if_pos he] at hq
        exact ⟨st', hq, hs'⟩
      · rename_i he
        rw [if_neg he] at hq
        exact ⟨st', hq, hs'⟩
    | _ => exact ⟨st', hq, hs'⟩
  | loop c ih =>
    intro Q st h a w hs
    simp only [wpC] at h
    obtain ⟨I, n, h0, hround⟩ := h.ex
    refine wp_loop_ghost (fun n a w => ∃ s, I n s ∧ Sim B0 w0 nt ds s a w) n ⟨_, h0, hs.trim⟩ fun n a w ⟨s, hI, hs⟩ => ?_
    refine wp_mono (ih _ s (hround n s hI) a w hs) fun e a w ⟨st', hq, hs'⟩ => ?_
    cases e with
    | normal =>
      obtain ⟨n', h1, h2⟩ := hq
      exact ⟨n', h1, _, h2, hs'.trim⟩
    | _ => exact ⟨st', hq, hs'⟩
  | exit id => intro Q st h a w hs; exact wp_exit ⟨st, h, hs⟩
  | ret => intro Q st h a w hs; exact wp_ret ⟨st, h, hs⟩
  | label l => intro Q st h a w hs; exact wp_label ⟨st, h, hs⟩
  | rangeFunc => intro Q st h; exact h.elim
  | scope => intro Q st h; exact h.elim
  | goto => intro Q st h; exact h.elim
  | refuse => intro Q st h; exact h.elim

/-! results -/
def res1 (P : Program) (st : St) : ResultVar → Option AV
  | .tmp t => some (lk st.fr t)
  | .cell a t => match loadF P t (lk st.fr a) st.bx with
    | some (_, r, _, _) => some r
    | none => none
def resL (P : Program) (st : St) : List ResultVar → Option (List AV)
  | [] => some []
  | x :: xs => match res1 P st x, resL P st xs with
    | some a, some r => some (a :: r)
    | _, _ => none
def out1 (bx : List Box) : AV → Option AV
  | .lit v => some (.lit v)
  | .sl true L => some (.sl true L)
  | .e0 => some (.sl true [])
  | .row k => match bget bx k with
    | .row true _ _ L => some (.sl true L)
    | _ => none
  | _ => none
def outs (bx : List Box) : List AV → Option (List AV)
  | [] => some []
  | t :: ts => match out1 bx t, outs bx ts with
    | some a, some r => some (a :: r)
    | _, _ => none
def out (bx : List Box) : AV → Option AV
  | .agg cs => match outs bx cs with
    | some r => some (.agg r)
    | none => none
  | t => out1 bx t
def outL (bx : List Box) : List AV → Option (List AV)
  | [] => some []
  | t :: ts => match out bx t, outL bx ts with
    | some a, some r => some (a :: r)
    | _, _ => none
def resOf : List AV → AV
  | [x] => x
  | xs => .tup xs
/-- the function's result in a state -/
def resA (P : Program) (rs : List ResultVar) (st : St) : Option AV :=
  match resL P st rs with
  | none => none
  | some l => match outL st.bx l with
    | none => none
    | some l' => some (resOf l')

section
variable {B0 : Nat} {w : World} {ρ : Env} {bx : List Box}
theorem out1_sound (hs : SimB B0 w ρ (bget bx)) {v : Value} {t t' : AV} (hr : Rep B0 w ρ (bget bx) v t) (h : out1 bx t = some t') : RepP w (fun b => B0 ≤ b) v t' := by
  unfold out1 at h
  split at h
  · injection h with h; subst h; rw [hr.inv_lit]; exact .lit _
  · injection h with h; subst h
    exact .sl _ _ _ (hr.inv_sl.ext fun b hb _ => ⟨rfl, hb.2 rfl⟩)
  · injection h with h; subst h
    obtain ⟨a, rfl⟩ := hr.inv_e0
    exact .sl _ _ _ (.sl a 0 0 0 [] (fun _ _ => undef) rfl (Nat.le_refl _) (Nat.zero_le _) (fun es he => by simp at he) (fun i j es t h1 => by simp at h1) (fun i j es t h1 => by simp at h1))
  · rename_i k
    split at h
    · rename_i e sz L hk
      injection h with h; subst h
      obtain ⟨_, hv⟩ := hr.inv_row
      have hb := hs.box k
      rw [hk] at hb
      rw [hv]
      exact .sl _ _ _ (row_repT hb (fun _ h => h) (fun b hb => hb.2 rfl))
    · cases h
  · cases h
theorem outs_sound (hs : SimB B0 w ρ (bget bx)) : ∀ (ts ts' : List AV) (vs : List Value), RepL B0 w ρ (bget bx) vs ts → outs bx ts = some ts' → RepPL w (fun b => B0 ≤ b) vs ts'
  | [], ts', vs, hr, h => by
    simp only [outs, Option.some.injEq] at h
    subst h
    exact ⟨hr.1, fun i v t h1 h2 => by simp at h2⟩
  | t :: ts, ts', vs, hr, h => by
    simp only [outs] at h
    split at h
    · rename_i a r ha hr'
      injection h with h; subst h
      cases vs with
      | nil => have := hr.1; simp at this
      | cons v vs =>
        have ih := outs_sound hs ts r vs ⟨by have := hr.1; simpa using this, fun i v t h1 h2 => hr.2 (i + 1) v t (by simpa using h1) (by simpa using h2)⟩ hr'
        have h0 := out1_sound hs (hr.2 0 v t rfl rfl) ha
        refine ⟨by simp [ih.1], fun i v' t' h1 h2 => ?_⟩
        match i, h1, h2 with
        | 0, h1, h2 => simp at h1 h2; subst h1; subst h2; exact h0
        | i + 1, h1, h2 => exact ih.2 i v' t' (by simpa using h1) (by simpa using h2)
    · cases h
theorem out_sound (hs : SimB B0 w ρ (bget bx)) {v : Value} {t t' : AV} (hr : Rep B0 w ρ (bget bx) v t) (h : out bx t = some t') : RepP w (fun b => B0 ≤ b) v t' := by
  unfold out at h
  split at h
  · rename_i cs
    split at h
    · rename_i r hr'
      injection h with h; subst h
      obtain ⟨vs, rfl, hvs⟩ := hr.inv_agg
      have := outs_sound hs cs r vs hvs hr'
      exact .agg vs r this.1 this.2
    · cases h
  · exact out1_sound hs hr h
theorem outL_sound (hs : SimB B0 w ρ (bget bx)) : ∀ (ts ts' : List AV) (vs : List Value), RepL B0 w ρ (bget bx) vs ts → outL bx ts = some ts' → RepPL w (fun b => B0 ≤ b) vs ts'
  | [], ts', vs, hr, h => by
    simp only [outL, Option.some.injEq] at h
    subst h
    exact ⟨hr.1, fun i v t h1 h2 => by simp at h2⟩
  | t :: ts, ts', vs, hr, h => by
    simp only [outL] at h
    split at h
    · rename_i a r ha hr'
      injection h with h; subst h
      cases vs with
      | nil => have := hr.1; simp at this
      | cons v vs =>
        have ih := outL_sound hs ts r vs ⟨by have := hr.1; simpa using this, fun i v t h1 h2 => hr.2 (i + 1) v t (by simpa using h1) (by simpa using h2)⟩ hr'
        have h0 := out_sound hs (hr.2 0 v t rfl rfl) ha
        refine ⟨by simp [ih.1], fun i v' t' h1 h2 => ?_⟩
        match i, h1, h2 with
        | 0, h1, h2 => simp at h1 h2; subst h1; subst h2; exact h0
        | i + 1, h1, h2 => exact ih.2 i v' t' (by simpa using h1) (by simpa using h2)
    · cases h
end

def ResultVar.get (tmps : Array Value) : ResultVar → Sem Value
  | .tmp t => pure (tmps.getD t undef)
  | .cell a t => do loadVar t (← asAddr (tmps.getD a undef))

theorem resL_sound {P : Program} {B0 : Nat} {w : World} {ρ : Env} {nt : Nat} {a : Act} {st : St} (hs : SimB B0 w ρ (bget st.bx)) (hf : FrOk B0 w ρ (bget st.bx) nt a (lk st.fr)) :
    ∀ (rs : List ResultVar) (l : List AV), resL P st rs = some l → ∃ vs, (rs.mapM (ResultVar.get a.tmps)).run P w = .ok vs w ∧ RepL B0 w ρ (bget st.bx) vs l
  | [], l, h => by
    simp only [resL, Option.some.injEq] at h
    subst h
    exact ⟨[], by simp, rfl, fun i v t h1 => by simp at h1⟩
  | x :: xs, l, h => by
    simp only [resL] at h
    split at h
    · rename_i r l' h1 h2
      injection h with h; subst h
      obtain ⟨vs, e1, e2⟩ := resL_sound hs hf xs l' h2
      have hx : ∃ v, (ResultVar.get a.tmps x).run P w = .ok v w ∧ Rep B0 w ρ (bget st.bx) v r := by
        cases x with
        | tmp t =>
          simp only [res1, Option.some.injEq] at h1
          subst h1
          exact ⟨_, rfl, hf.2 t⟩
        | cell p t =>
          simp only [res1] at h1
          split at h1
          · rename_i c r' e rd hl
            injection h1 with h1; subst h1
            obtain ⟨_, hl⟩ := loadF_run hl
            obtain ⟨ad, v', g1, g2, g3⟩ := hl B0 w ρ _ _ (fun _ _ => rfl) hs (hf.2 p)
            exact ⟨v', by simp only [ResultVar.get, Sem.run_bind, g1, asAddr, Sem.run_pure, Result.andThen_ok, g2], g3⟩
          · cases h1
      obtain ⟨v, g1, g2⟩ := hx
      refine ⟨v :: vs, ?_, by simp [e2.1], fun i v' t' k1 k2 => ?_⟩
      · rw [List.mapM_cons]
        simp only [Sem.run_bind, g1, Result.andThen_ok, e1, Sem.run_pure]
      · match i, k1, k2 with
        | 0, k1, k2 => simp at k1 k2; subst k1; subst k2; exact g2
        | i + 1, k1, k2 => exact e2.2 i v' t' (by simpa using k1) (by simpa using k2)
    · cases h

theorem resA_sound {P : Program} {B0 : Nat} {w : World} {ρ : Env} {nt : Nat} {a : Act} {st : St} {fn : Func} {r : AV} (hs : SimB B0 w ρ (bget st.bx)) (hf : FrOk B0 w ρ (bget st.bx) nt a (lk st.fr)) (h : resA P fn.results.toList st = some r) :
    ∃ v, (results fn a.tmps).run P w = .ok v w ∧ RepP w (fun b => B0 ≤ b) v r := by
  unfold resA at h
  split at h
  · cases h
  · rename_i l hl
    split at h
    · cases h
    · rename_i l' hl'
      injection h with h; subst h
      obtain ⟨vs, e1, e2⟩ := resL_sound hs hf _ l hl
      have e3 := outL_sound hs l l' vs e2 hl'
      have hres : (results fn a.tmps).run P w = .ok (if h : vs.toArray.size = 1 then vs.toArray[0] else .tuple vs.toArray) w := by
        have hg : results fn a.tmps = (do let vs ← List.toArray <$> fn.results.toList.mapM (ResultVar.get a.tmps); pure (if h : vs.size = 1 then vs[0] else .tuple vs)) := by
          unfold results
          rw [Array.mapM_eq_mapM_toList]
          congr 3
        rw [hg]
        simp only [Sem.run_bind, Sem.run_map, e1, Result.andThen_ok, Sem.run_pure]
      refine ⟨_, hres, ?_⟩
      by_cases h1 : vs.length = 1
      · match vs, h1, e3 with
        | [v], _, e3 =>
          match l', e3.1 with
          | [r], _ => exact e3.2 0 v r rfl rfl
      · have : ¬ vs.toArray.size = 1 := by simpa using h1
        rw [dif_neg this]
        have hl1 : ¬ l'.length = 1 := by rw [← e3.1]; exact h1
        have : resOf l' = .tup l' := by
          match l', hl1 with
          | [], _ => rfl
          | [_], h => exact absurd rfl h
          | _ :: _ :: _, _ => rfl
        rw [this]
        exact .tup vs l' e3.1 e3.2

/-- what stands at a function's end -/
def PostA (P : Program) (rs : List ResultVar) (r : AV) : Exit → St → Prop
  | .normal, st => resA P rs st = some r
  | .ret, st => resA P rs st = some r
  | _, _ => False

def args0 : List AV → Nat → List (Nat × AV)
  | [], _ => []
  | t :: ts, n => (n, t) :: args0 ts (n + 1)
theorem lk_args0 : ∀ (ts : List AV) (n s : Nat), lk (args0 ts n) s = if n ≤ s then (ts[s - n]?).getD .dead else .dead
  | [], n, s => by simp [args0, lk]
  | t :: ts, n, s => by
    simp only [args0, lk]
    by_cases h : n = s
    · subst h; simp
    · rw [if_neg h, lk_args0 ts (n + 1) s]
      by_cases hn : n ≤ s
      · rw [if_pos hn, if_pos (by omega), show s - n = (s - (n + 1)) + 1 by omega]
        simp
      · rw [if_neg hn, if_neg (by omega)]

theorem den_of_wp {Γ : Gam} {P : Program} {f : FuncId} {fn : Func} {c : Code} {args : List AV} {r : AV} (kp : List (Nat × List Nat)) (hm : P.follows .mixedOrders = true) (hf : P.funcs[f]? = some fn) (hb : fn.body = some c) (hname : (fn.name == "runtime.NumGoroutine") = false)
    (hold : args.all AV.old = true) (hnt : args.length ≤ fn.ntmps) (h : wpC Γ P fn.ntmps kp c (PostA P fn.results.toList r) ⟨args0 args 0, []⟩) : Den P f args r := by
  refine ⟨⟨fn, hf, by rw [hb]; rfl, hname⟩, fun w vs hvs => ?_⟩
  refine calls_of_wp hf hb ?_
  have hbx : ∀ k, ¬ (bget [] k).alive := fun k => by simp [bget, Box.alive]
  have hsim : Sim w.heap.size w fn.ntmps [] ⟨args0 args 0, []⟩ { tmps := ⟨vs⟩ ++ Array.replicate (fn.ntmps - (⟨vs⟩ : Array Value).size) undef, defers := [] } w := by
    refine ⟨Below.refl _ _, ⟨⟨fun _ => 0, fun _ => undef⟩, ⟨Nat.le_refl _, fun k => by simp [bget, SimBox], fun k k' b h1 => by simp [own, bget] at h1⟩, ?_, fun s => ?_⟩, rfl⟩
    · have := hvs.1
      simp; omega
    · rw [lk_args0, if_pos (Nat.zero_le _)]
      simp only [Nat.sub_zero]
      cases hs : args[s]? with
      | none => exact .dead _
      | some t =>
        have hlt : s < vs.length := by rw [hvs.1]; exact (List.getElem?_eq_some_iff.1 hs).1
        have hv : vs[s]? = some vs[s] := List.getElem?_eq_getElem hlt
        have := (hvs.2 s _ t hv hs).rep_old (B0 := w.heap.size) (ρ := ⟨fun _ => 0, fun _ => undef⟩) (bx := bget []) hbx (List.all_eq_true.1 hold t (List.mem_of_getElem? hs))
        simpa [Array.getElem?_append, hlt] using this
  refine wp_mono (wpC_sound hm c _ _ h _ _ hsim) fun e a w' ⟨st, hq, hb', ⟨ρ, h1, h2⟩, hd⟩ => ?_
  cases e with
  | normal =>
    obtain ⟨v, g1, g2⟩ := resA_sound h1 h2 hq
    exact ⟨hd, v, g1, v, rfl, g2, hb'⟩
  | ret =>
    obtain ⟨v, g1, g2⟩ := resA_sound h1 h2 hq
    exact ⟨hd, v, g1, v, rfl, g2, hb'⟩
  | exit => exact hq.elim
  | goto => exact hq.elim
  | panic => exact hq.elim
  | outgrown => exact hq.elim

/-- the body of a function from its arguments on; r: its result -/
def bodyWp (Γ : Gam) (P : Program) (fn : Func) (kp : List (Nat × List Nat)) (args : List AV) (r : AV) : Prop :=
  match fn.body with
  | some c => wpC Γ P fn.ntmps kp c (PostA P fn.results.toList r) ⟨args0 args 0, []⟩
  | none => False
theorem den_of_body {Γ : Gam} {P : Program} {f : FuncId} {fn : Func} {args : List AV} {r : AV} {kp : List (Nat × List Nat)} (hm : P.follows .mixedOrders = true) (hf : P.funcs[f]? = some fn) (hname : (fn.name == "runtime.NumGoroutine") = false)
    (hold : args.all AV.old = true) (hnt : args.length ≤ fn.ntmps) (h : bodyWp Γ P fn kp args r) : Den P f args r := by
  unfold bodyWp at h
  split at h
  · rename_i c hc
    exact den_of_wp kp hm hf hc hname hold hnt h
  · exact h.elim
/-- a part of a function's code -/
def codeAt : Code → List Nat → Code
  | c, [] => c
  | .seq a _, 0 :: p => codeAt a p
  | .seq _ b, 1 :: p => codeAt b p
  | .cond _ a _, 0 :: p => codeAt a p
  | .cond _ _ b, 1 :: p => codeAt b p
  | .block _ c, 0 :: p => codeAt c p
  | .loop c, 0 :: p => codeAt c p
  | c, _ => c
def codeOf (fn : Func) (p : List Nat) : Code := codeAt (fn.body.getD .skip) p
end Go.Am
