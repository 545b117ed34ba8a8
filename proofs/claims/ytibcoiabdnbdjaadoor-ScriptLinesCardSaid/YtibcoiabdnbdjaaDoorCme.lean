/- The abstract machine, third state, part 14: a region that draws its order comes to the same end in every order, if what conflicts is ordered. No condition. -/
import Derived.Test.YtibcoiabdnbdjaaDoorCmd
namespace Go.Cm
open Go.RowKit
set_option linter.unusedSectionVars false
variable [Sig]

/-! the state behind those operations of a region that have come up (D), said by the trace -/
section
variable (nt : Nat) (dst : Nat → Option Nat) (v : Nat → AV) (e : Nat → List (Nat × Box)) (g0 : Nat → AV) (b0 : Nat → Box)
def gRun (D : Nat → Bool) : Nat → (Nat → AV)
  | 0 => g0
  | m + 1 => if D m then putG nt (gRun D m) (dst m) (v m) else gRun D m
def bRun (D : Nat → Bool) : Nat → (Nat → Box)
  | 0 => b0
  | m + 1 => if D m then appE (bRun D m) (e m) else bRun D m
end

theorem putG_other {nt : Nat} {g : Nat → AV} {d : Option Nat} {v : AV} {s : Nat} (h : d ≠ some s) : putG nt g d v s = g s := by
  cases d with
  | none => rfl
  | some d =>
    simp only [putG]
    split
    · have hsd : ¬ s = d := fun e => h (by rw [e])
      simp only [hsd, if_false]
    · rfl
theorem putG_same {nt : Nat} {g g' : Nat → AV} {s : Nat} (v : AV) (h : g s = g' s) (d : Option Nat) : putG nt g d v s = putG nt g' d v s := by
  cases d with
  | none => exact h
  | some d =>
    simp only [putG]
    split
    · by_cases hs : s = d
      · simp only [hs, if_true]
      · simp only [hs, if_false]; exact h
    · exact h
theorem appE_out (e : List (Nat × Box)) (bx : Nat → Box) (k : Nat) (h : k ∉ e.map (·.1)) : appE bx e k = bx k :=
  appE_other e bx k fun b hb => h (List.mem_map.2 ⟨(k, b), hb, rfl⟩)
theorem appE_same : ∀ (e : List (Nat × Box)) (bx bx' : Nat → Box) (k : Nat), bx k = bx' k → appE bx e k = appE bx' e k
  | [], _, _, _, h => h
  | (j, b) :: e, bx, bx', k, h => by
    simp only [appE]
    exact appE_same e _ _ k (by rw [bget_setBox, bget_setBox, h])
theorem appE_in : ∀ (e : List (Nat × Box)) (bx bx' : Nat → Box) (k : Nat), k ∈ e.map (·.1) → appE bx e k = appE bx' e k
  | [], _, _, _, h => by simp at h
  | (j, b) :: e, bx, bx', k, h => by
    simp only [appE]
    by_cases hk : k ∈ e.map (·.1)
    · exact appE_in e _ _ k hk
    · simp only [List.map_cons, List.mem_cons] at h
      have : k = j := h.resolve_right hk
      exact appE_same e _ _ k (by rw [bget_setBox, bget_setBox, if_pos this, if_pos this])

section
variable {nt : Nat} {dst : Nat → Option Nat} {v : Nat → AV} {e : Nat → List (Nat × Box)} {g0 : Nat → AV} {b0 : Nat → Box}
theorem gRun_congr {D D' : Nat → Bool} {s : Nat} : ∀ m, (∀ j, j < m → dst j = some s → D j = D' j) → gRun nt dst v g0 D m s = gRun nt dst v g0 D' m s
  | 0, _ => rfl
  | m + 1, h => by
    have ih := gRun_congr m fun j hj hd => h j (by omega) hd
    by_cases hd : dst m = some s
    · have := h m (by omega) hd
      simp only [gRun]
      rw [this]
      split
      · exact putG_same _ ih _
      · exact ih
    · have : ∀ D : Nat → Bool, gRun nt dst v g0 D (m + 1) s = gRun nt dst v g0 D m s := fun D => by
        simp only [gRun]
        split
        · exact putG_other hd
        · rfl
      rw [this, this, ih]
theorem bRun_congr {D D' : Nat → Bool} {k : Nat} : ∀ m, (∀ j, j < m → k ∈ (e j).map (·.1) → D j = D' j) → bRun e b0 D m k = bRun e b0 D' m k
  | 0, _ => rfl
  | m + 1, h => by
    have ih := bRun_congr m fun j hj hd => h j (by omega) hd
    by_cases hd : k ∈ (e m).map (·.1)
    · have := h m (by omega) hd
      simp only [bRun]
      rw [this]
      split
      · exact appE_same _ _ _ _ ih
      · exact ih
    · have : ∀ D : Nat → Bool, bRun e b0 D (m + 1) k = bRun e b0 D m k := fun D => by
        simp only [bRun]
        split
        · exact appE_out _ _ _ hd
        · rfl
      rw [this, this, ih]
/-- behind operation i no operation that has come up writes the slot -/
theorem gRun_last {D : Nat → Bool} {i s : Nat} : ∀ m, i ≤ m → (∀ j, i ≤ j → j < m → dst j = some s → D j = false) → gRun nt dst v g0 D m s = gRun nt dst v g0 D i s
  | 0, h, _ => by rw [show i = 0 by omega]
  | m + 1, h, hd => by
    by_cases hi : i = m + 1
    · rw [hi]
    · rw [← gRun_last m (by omega) fun j h1 h2 h3 => hd j h1 (by omega) h3]
      simp only [gRun]
      split
      · rename_i hD
        by_cases hs : dst m = some s
        · have := hd m (by omega) (by omega) hs
          rw [this] at hD; cases hD
        · exact putG_other hs
      · rfl
theorem bRun_last {D : Nat → Bool} {i k : Nat} : ∀ m, i ≤ m → (∀ j, i ≤ j → j < m → k ∈ (e j).map (·.1) → D j = false) → bRun e b0 D m k = bRun e b0 D i k
  | 0, h, _ => by rw [show i = 0 by omega]
  | m + 1, h, hd => by
    by_cases hi : i = m + 1
    · rw [hi]
    · rw [← bRun_last m (by omega) fun j h1 h2 h3 => hd j h1 (by omega) h3]
      simp only [bRun]
      split
      · rename_i hD
        by_cases hs : k ∈ (e m).map (·.1)
        · have := hd m (by omega) (by omega) hs
          rw [this] at hD; cases hD
        · exact appE_out _ _ _ hs
      · rfl
end

/-! what must be ordered -/
def inter (a b : List Nat) : Bool := a.any fun x => b.contains x
def dstL (o : Oper) : List Nat := o.dst.toList
/-- operations i and j touch one slot -/
def slotConf (ops : Array Oper) (i j : Oper) : Bool :=
  inter (dstL j) (i.looksAt ops) || inter (dstL i) (j.looksAt ops) || inter (dstL i) (dstL j)
def boxConf (i j : List Nat × List Nat) : Bool := inter j.2 (i.1 ++ i.2) || inter i.2 (j.1 ++ j.2)
def slotsOk (ops : Array Oper) : Bool :=
  let b := Region.before ops
  (List.range ops.size).all fun j =>
    (ops.getD j default).after.all (fun e => !Region.binds .any e || decide (e.on < j)) &&
    (List.range j).all fun i => (b.getD j 0).testBit i || !slotConf ops (ops.getD i default) (ops.getD j default)
def boxesOk (ops : Array Oper) (lg : List (List Nat × List Nat)) : Bool :=
  lg.all (fun x => x.2.isEmpty) ||
  (let b := Region.before ops
   let l := lg.reverse
   (List.range ops.size).all fun j => (List.range j).all fun i => (b.getD j 0).testBit i || !boxConf (l.getD i ([], [])) (l.getD j ([], [])))

theorem inter_mem {a b : List Nat} {x : Nat} (h1 : x ∈ a) (h2 : x ∈ b) : inter a b = true :=
  List.any_eq_true.2 ⟨x, h1, List.contains_iff_mem.2 h2⟩

/-- ancestors: a bit of 'before' leads to an edge -/
theorem before_spec (ops : Array Oper) : ∀ (j i : Nat), ((Region.before ops).getD j 0).testBit i = true →
    ∃ o ed, ops[j]? = some o ∧ ed ∈ o.after ∧ Region.binds .any ed = true ∧ (ed.on = i ∨ (ed.on < j ∧ ((Region.before ops).getD ed.on 0).testBit i = true)) := by
  have key : ∀ (l : List Oper) (acc : Array Nat), let r := l.foldl (fun acc o => acc.push (o.after.foldl (fun s e => if Region.binds .any e then s ||| 2 ^ e.on ||| acc.getD e.on 0 else s) 0)) acc
      acc.size ≤ r.size ∧ (∀ k, k < acc.size → r.getD k 0 = acc.getD k 0) ∧ r.size = acc.size + l.length ∧
      ∀ (m : Nat) (o : Oper), l[m]? = some o → ∀ i, (r.getD (acc.size + m) 0).testBit i = true → ∃ ed, ed ∈ o.after ∧ Region.binds .any ed = true ∧ (ed.on = i ∨ (ed.on < acc.size + m ∧ (r.getD ed.on 0).testBit i = true)) := by
    intro l
    induction l with
    | nil => intro acc; exact ⟨Nat.le_refl _, fun _ _ => rfl, by simp, fun m o h => by simp at h⟩
    | cons o l ih =>
      intro acc
      simp only [List.foldl_cons]
      generalize hx : (o.after.foldl (fun s e => if Region.binds .any e then s ||| 2 ^ e.on ||| acc.getD e.on 0 else s) 0) = x
      obtain ⟨h1, h2, h3, h4⟩ := ih (acc.push x)
      generalize (l.foldl (fun acc o => acc.push (o.after.foldl (fun s e => if Region.binds .any e then s ||| 2 ^ e.on ||| acc.getD e.on 0 else s) 0)) (acc.push x)) = r at *
      simp only [Array.size_push] at h1 h2 h3 h4
      have hold : ∀ k, k < acc.size → r.getD k 0 = acc.getD k 0 := fun k hk => by
        rw [h2 k (by omega)]
        simp [Array.getElem?_push, Nat.ne_of_lt hk]
      refine ⟨by omega, hold, by simp; omega, fun m o' hm i hb => ?_⟩
      match m, hm with
      | 0, hm =>
        simp at hm
        subst hm
        have hrx : r.getD (acc.size + 0) 0 = x := by
          rw [Nat.add_zero, h2 acc.size (by omega)]
          simp
        rw [hrx, ← hx, ← Array.foldl_toList] at hb
        have fold : ∀ (es : List Edge) (s : Nat), (es.foldl (fun s e => if Region.binds .any e then s ||| 2 ^ e.on ||| acc.getD e.on 0 else s) s).testBit i = true →
            s.testBit i = true ∨ ∃ ed, ed ∈ es ∧ Region.binds .any ed = true ∧ (ed.on = i ∨ (acc.getD ed.on 0).testBit i = true) := by
          intro es
          induction es with
          | nil => intro s h; exact .inl h
          | cons ed es ih2 =>
            intro s h
            simp only [List.foldl_cons] at h
            rcases ih2 _ h with h | ⟨ed', h1, h2, h3⟩
            · by_cases hbd : Region.binds .any ed = true
              · rw [if_pos hbd] at h
                simp only [Nat.testBit_or, Nat.testBit_two_pow, Bool.or_eq_true, decide_eq_true_eq] at h
                rcases h with (h | h) | h
                · exact .inl h
                · exact .inr ⟨ed, by simp, hbd, .inl h⟩
                · exact .inr ⟨ed, by simp, hbd, .inr h⟩
              · rw [if_neg hbd] at h
                exact .inl h
            · exact .inr ⟨ed', by simp [h1], h2, h3⟩
        rcases fold _ _ hb with h | ⟨ed, e1, e2, e3⟩
        · simp at h
        · refine ⟨ed, by simpa using e1, e2, e3.imp id fun h => ?_⟩
          have hlt : ed.on < acc.size := by
            rcases Nat.lt_or_ge ed.on acc.size with h' | h'
            · exact h'
            · simp [Array.getElem?_eq_none h'] at h
          exact ⟨by omega, by rw [hold _ hlt]; exact h⟩
      | m + 1, hm =>
        have := h4 m o' (by simpa using hm) i (by rw [show acc.size + 1 + m = acc.size + (m + 1) by omega]; exact hb)
        obtain ⟨ed, e1, e2, e3⟩ := this
        exact ⟨ed, e1, e2, e3.imp id fun h => ⟨by omega, h.2⟩⟩
  intro j i hb
  have hbef : Region.before ops = ops.toList.foldl (fun acc o => acc.push (o.after.foldl (fun s e => if Region.binds .any e then s ||| 2 ^ e.on ||| acc.getD e.on 0 else s) 0)) #[] := by
    unfold Region.before
    rw [← Array.foldl_toList]
  have hk := key ops.toList #[]
  simp only at hk
  rw [← hbef] at hk
  obtain ⟨_, _, h3, h4⟩ := hk
  have hlt : j < ops.size := by
    rcases Nat.lt_or_ge j (Region.before ops).size with h' | h'
    · simp at h3; omega
    · simp [Array.getElem?_eq_none h'] at hb
  have ho : ops[j]? = some ops[j] := Array.getElem?_eq_getElem hlt
  obtain ⟨ed, e1, e2, e3⟩ := h4 j ops[j] (by simp) i (by simpa using hb)
  exact ⟨ops[j], ed, ho, e1, e2, e3.imp id fun h => ⟨by simpa using h.1, h.2⟩⟩

/-- what has come up is closed under ancestors -/
def Closed (ops : Array Oper) (D : Nat → Bool) : Prop := ∀ j o, ops[j]? = some o → D j = true → ∀ ed, ed ∈ o.after → Region.binds .any ed = true → D ed.on = true
theorem Closed.anc {ops : Array Oper} {D : Nat → Bool} (h : Closed ops D) : ∀ (j i : Nat), ((Region.before ops).getD j 0).testBit i = true → D j = true → D i = true := by
  intro j
  induction j using Nat.strongRecOn with
  | _ j ih =>
    intro i hb hj
    obtain ⟨o, ed, h1, h2, h3, h4⟩ := before_spec ops j i hb
    have hd := h j o h1 hj ed h2 h3
    rcases h4 with rfl | ⟨h4, h5⟩
    · exact hd
    · exact ih ed.on h4 i h5 hd
/-- an operation that may come up: its ancestors have come up -/
theorem Closed.ready {ops : Array Oper} {D : Nat → Bool} (h : Closed ops D) {j : Nat} {o : Oper} (ho : ops[j]? = some o) (hr : ∀ ed, ed ∈ o.after → Region.binds .any ed = true → D ed.on = true) (i : Nat) (hb : ((Region.before ops).getD j 0).testBit i = true) : D i = true := by
  obtain ⟨o', ed, h1, h2, h3, h4⟩ := before_spec ops j i hb
  rw [ho] at h1
  injection h1 with h1
  subst h1
  have hd := hr ed h2 h3
  rcases h4 with rfl | ⟨_, h5⟩
  · exact hd
  · exact h.anc ed.on i h5 hd
end Go.Cm
