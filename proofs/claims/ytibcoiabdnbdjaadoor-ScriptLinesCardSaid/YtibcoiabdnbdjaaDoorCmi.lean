/- The abstract machine, third state, part 18: the state behind a loop's or a join's edge. No condition. -/
import Derived.Test.YtibcoiabdnbdjaaDoorCmh
namespace Go.Cm
open Go.RowKit
set_option linter.unusedSectionVars false
variable [Sig]

def isDead : AV → Bool
  | .dead => true
  | _ => false
def isFrz : Box → Bool
  | .frz _ _ => true
  | _ => false
def marks (gone : List Nat) : Bxs := gone.map fun k => (k, .gone)
def low (n0 : Nat) : List Nat := List.range n0
/-- the base of a loop or a join: nothing in it leads to a box from n0 on -/
def baseOk (tl : List (Nat × AV)) (bt : Bxs) (n0 : Nat) : Bool :=
  tl.all (fun p => inK (low n0) 4 p.2) && bt.all (fun p => decide (p.1 < n0) && boxInK (low n0) p.2)
/-- an edge: what changed is handed on, or is forgotten -/
def edgeOk (tl : List (Nat × AV)) (bt : Bxs) (n0 : Nat) (gone : List Nat) (is : List Item) (s : St) (ks ow : List Nat) : Bool :=
  s.fr.all (fun p => (itRegs is).contains p.1 || isDead (lk tl p.1)) &&
  (s.bx.all (fun p => decide (n0 ≤ p.1) || (itBoxes is).contains p.1 || gone.contains p.1) &&
  (ks.all (fun k => (decide (n0 ≤ k) || gone.contains k || isFrz (bget bt k)) && !(itRows is).contains k && !ow.contains k) &&
  (ow.all (fun k => (decide (n0 ≤ k) || gone.contains k) && !(itRows is).contains k) &&
  (nodupB ks && nodupB ow && (itBoxes is).all (fun k => decide (k < n0)) && (itRows is).all (fun k => decide (k < n0)) && (itSame is).all (fun k => decide (k < n0))))))

theorem keepB_made {b : Box} (h : keepB b = true) : b.made := by cases b <;> first | trivial | cases h
theorem keepB_in {b : Box} (h : keepB b = true) (K : List Nat) : boxInK K b = true := by cases b <;> first | rfl | cases h
theorem keepB_own {ρ : Env} {bx : Nat → Box} {k : Nat} (h : keepB (bx k) = true) : own ρ bx k = some (ρ.β k) := by
  unfold own
  cases hb : bx k <;> rw [hb] at h <;> first | rfl | cases h
theorem bget_append : ∀ (a b : Bxs) (k : Nat), ((k, bget (a ++ b) k) ∈ a) ∨ (k ∉ keys a ∧ bget (a ++ b) k = bget b k)
  | [], b, k => .inr ⟨by simp [keys], rfl⟩
  | (j, x) :: a, b, k => by
    simp only [List.cons_append, bget]
    by_cases h : j = k
    · rw [if_pos h]; subst h; exact .inl (List.mem_cons_self ..)
    · rw [if_neg h]
      rcases bget_append a b k with h1 | ⟨h1, h2⟩
      · exact .inl (List.mem_cons_of_mem _ h1)
      · exact .inr ⟨by simp only [keys, List.map_cons, List.mem_cons, not_or]; exact ⟨Ne.symm h, h1⟩, h2⟩
theorem lk_append : ∀ (a b : List (Nat × AV)) (k : Nat), ((k, lk (a ++ b) k) ∈ a) ∨ ((∀ v, (k, v) ∉ a) ∧ lk (a ++ b) k = lk b k)
  | [], b, k => .inr ⟨fun v h => by simp at h, rfl⟩
  | (j, x) :: a, b, k => by
    simp only [List.cons_append, lk]
    by_cases h : j = k
    · rw [if_pos h]; subst h; exact .inl (List.mem_cons_self ..)
    · rw [if_neg h]
      rcases lk_append a b k with h1 | ⟨h1, h2⟩
      · exact .inl (List.mem_cons_of_mem _ h1)
      · refine .inr ⟨fun v hv => ?_, h2⟩
        rcases List.mem_cons.1 hv with hv | hv
        · injection hv with e; exact h e.symm
        · exact h1 v hv
theorem bget_mem : ∀ (a : Bxs) (k : Nat), bget a k = .nil ∨ (k, bget a k) ∈ a
  | [], k => .inl rfl
  | (j, x) :: a, k => by
    simp only [bget]
    by_cases h : j = k
    · rw [if_pos h]; subst h; exact .inr (List.mem_cons_self ..)
    · rw [if_neg h]; exact (bget_mem a k).imp id (List.mem_cons_of_mem _)
theorem lk_mem : ∀ (a : List (Nat × AV)) (k : Nat), lk a k = .dead ∨ (k, lk a k) ∈ a
  | [], k => .inl rfl
  | (j, x) :: a, k => by
    simp only [lk]
    by_cases h : j = k
    · rw [if_pos h]; subst h; exact .inr (List.mem_cons_self ..)
    · rw [if_neg h]; exact (lk_mem a k).imp id (List.mem_cons_of_mem _)

theorem nodup_inj : ∀ {K : List Nat}, nodupB K = true → ∀ {i j k : Nat}, K[i]? = some k → K[j]? = some k → i = j
  | [], _, _, _, _, h, _ => by simp at h
  | x :: xs, h, i, j, k, h1, h2 => by
    simp only [nodupB, Bool.and_eq_true, Bool.not_eq_true', List.contains_eq_mem, decide_eq_false_iff_not] at h
    match i, j, h1, h2 with
    | 0, 0, _, _ => rfl
    | 0, j + 1, h1, h2 =>
      simp at h1 h2
      subst h1
      exact absurd (List.mem_of_getElem? h2) h.1
    | i + 1, 0, h1, h2 =>
      simp at h1 h2
      subst h2
      exact absurd (List.mem_of_getElem? h1) h.1
    | i + 1, j + 1, h1, h2 => exact congrArg (· + 1) (nodup_inj h.2 (i := i) (j := j) (k := k) (by simpa using h1) (by simpa using h2))

theorem Sim.edge {S : Start} {nt : Nat} {ds : List Deferred} {s : St} {a : Act} {w : World} (h : Sim S nt ds s a w) {is : List Item} {p : PT is} {ks ow : List Nat} {n0 : Nat} {gone : List Nat} (hpk : pack s is = some (p, ks, ow))
    (hbase : baseOk s.tl s.bt n0 = true) (hedge : edgeOk s.tl s.bt n0 gone is s ks ow = true) (hn0 : S.n ≤ n0) {u : St} (hR : lk u.R = lk ((unpk is p n0).1 ++ s.tl)) (hB : bget u.B = bget ((unpk is p n0).2.1 ++ (marks gone ++ s.bt))) (hnb : S.n ≤ u.nb) : Sim S nt ds u a w := by
  obtain ⟨⟨ρ, hx, hs, hf⟩, hd, hn⟩ := h
  -- what has been checked
  simp only [edgeOk, Bool.and_eq_true] at hedge
  obtain ⟨c1, c2, c3, c4, ⟨⟨⟨c5, c6⟩, c7⟩, c8⟩, c9⟩ := hedge
  simp only [baseOk, Bool.and_eq_true] at hbase
  obtain ⟨q1, q2⟩ := hbase
  have c1' : ∀ t v, (t, v) ∈ s.fr → t ∈ itRegs is ∨ lk s.tl t = .dead := fun t v hm => by
    have := List.all_eq_true.1 c1 _ hm
    simp only [Bool.or_eq_true, List.contains_iff_mem] at this
    refine this.imp id fun h => ?_
    cases hl : lk s.tl t <;> rw [hl] at h <;> first | rfl | cases h
  have c2' : ∀ k b, (k, b) ∈ s.bx → n0 ≤ k ∨ k ∈ itBoxes is ∨ k ∈ gone := fun k b hm => by
    have := List.all_eq_true.1 c2 _ hm
    simp only [Bool.or_eq_true, List.contains_iff_mem, decide_eq_true_eq] at this
    rcases this with (h | h) | h
    · exact .inl h
    · exact .inr (.inl h)
    · exact .inr (.inr h)
  have c3' : ∀ k, k ∈ ks → (n0 ≤ k ∨ k ∈ gone ∨ isFrz (bget s.bt k) = true) ∧ k ∉ itRows is ∧ k ∉ ow := fun k hm => by
    have := List.all_eq_true.1 c3 _ hm
    simp only [Bool.and_eq_true, Bool.or_eq_true, List.contains_iff_mem, decide_eq_true_eq, Bool.not_eq_true', List.contains_eq_mem, decide_eq_false_iff_not] at this
    obtain ⟨⟨h, h2⟩, h3⟩ := this
    refine ⟨?_, h2, h3⟩
    rcases h with (h | h) | h
    · exact .inl h
    · exact .inr (.inl h)
    · exact .inr (.inr h)
  have c4' : ∀ k, k ∈ ow → (n0 ≤ k ∨ k ∈ gone) ∧ k ∉ itRows is := fun k hm => by
    have := List.all_eq_true.1 c4 _ hm
    simpa only [Bool.and_eq_true, Bool.or_eq_true, List.contains_iff_mem, decide_eq_true_eq, Bool.not_eq_true', List.contains_eq_mem, decide_eq_false_iff_not] using this
  have c7' : ∀ k, k ∈ itBoxes is → k < n0 := fun k hk => of_decide_eq_true (List.all_eq_true.1 c7 k hk)
  have c8' : ∀ k, k ∈ itRows is → k < n0 := fun k hk => of_decide_eq_true (List.all_eq_true.1 c8 k hk)
  have q1' : ∀ t, lk s.tl t ≠ .dead → inK (low n0) 4 (lk s.tl t) = true := fun t ht => (lk_mem s.tl t).elim (fun h => absurd h ht) fun h => List.all_eq_true.1 q1 _ h
  have q2' : ∀ k, bget s.bt k ≠ .nil → k < n0 ∧ boxInK (low n0) (bget s.bt k) = true := fun k hk => (bget_mem s.bt k).elim (fun h => absurd h hk) fun h => by
    have := List.all_eq_true.1 q2 _ h
    simpa only [Bool.and_eq_true, decide_eq_true_eq] using this
  -- rows that are shared from now on
  obtain ⟨he1, hs1, hf1⟩ := SimB.frzs (bx := s.B) ks (bget s.B) hs (fun _ _ => rfl) c5
  generalize hb1 : appE (bget s.B) (frzE s.B ks) = b1 at he1 hs1 hf1
  have hx1 := hx.trans he1
  have hfr1 := hf.ext he1
  have b1_out : ∀ k, k ∉ ks → b1 k = bget s.B k := fun k hk => by rw [← hb1]; exact appE_other _ _ _ fun b hb => hk (frzE_keys hb)
  have b1_var : ∀ k, (∀ full e q, bget s.B k ≠ .row full e q) → b1 k = bget s.B k := fun k hk => by
    rw [← hb1]
    refine appE_other _ _ _ fun b hb => ?_
    have : ∀ (l : List Nat), (k, b) ∈ frzE s.B l → False := fun l => by
      induction l with
      | nil => intro h; simp [frzE] at h
      | cons j l ih =>
        intro h
        unfold frzE at h
        split at h
        · rename_i full e q hj
          rcases List.mem_cons.1 h with h | h
          · injection h with e1; subst e1; exact hk _ _ _ hj
          · exact ih h
        · exact ih h
    exact this ks hb
  -- the new boxes
  obtain ⟨p1, p2, p3, p4, p5, p6⟩ := pack_spec (n0 := n0) (own := ow) (ks := ks) is p ks ow 0 hpk (fun _ h => h) (fun i k hi => by rw [Nat.zero_add]; exact hi)
  simp only [Nat.add_zero] at p1 p2 p3 p4 p5 p6
  generalize hub : (unpk is p n0).2.1 = ub at *
  generalize hur : (unpk is p n0).1 = ur at *
  let bU : Nat → Box := bget (ub ++ (marks gone ++ s.bt))
  let ρ' : Env := ⟨fun k => if n0 ≤ k then (match ow[k - n0]? with | some j => ρ.β j | none => ρ.β k) else ρ.β k, fun k => if n0 ≤ k then (match ow[k - n0]? with | some j => ρ.hd j | none => ρ.hd k) else ρ.hd k, ρ.A⟩
  have hlo : ∀ k, k < n0 → ρ'.β k = ρ.β k ∧ ρ'.hd k = ρ.hd k := fun k hk => ⟨if_neg (by omega), if_neg (by omega)⟩
  have hhi : ∀ i k, ow[i]? = some k → ρ'.β (n0 + i) = ρ.β k ∧ ρ'.hd (n0 + i) = ρ.hd k := fun i k hi => by
    constructor
    · show (if n0 ≤ n0 + i then (match ow[n0 + i - n0]? with | some j => ρ.β j | none => ρ.β (n0 + i)) else ρ.β (n0 + i)) = ρ.β k
      rw [if_pos (by omega), show n0 + i - n0 = i by omega, hi]
    · show (if n0 ≤ n0 + i then (match ow[n0 + i - n0]? with | some j => ρ.hd j | none => ρ.hd (n0 + i)) else ρ.hd (n0 + i)) = ρ.hd k
      rw [if_pos (by omega), show n0 + i - n0 = i by omega, hi]
  -- a box of the base that is not handed on
  have hmk : ∀ k, ((k, bget (marks gone ++ s.bt) k) ∈ marks gone ∧ k ∈ gone ∧ bget (marks gone ++ s.bt) k = .gone) ∨ (k ∉ gone ∧ bget (marks gone ++ s.bt) k = bget s.bt k) := fun k => by
    rcases bget_append (marks gone) s.bt k with h | ⟨h1, h2⟩
    · refine .inl ⟨h, ?_⟩
      obtain ⟨j, hj, he⟩ := List.mem_map.1 h
      injection he with e1 e2
      subst e1
      exact ⟨hj, e2.symm⟩
    · refine .inr ⟨fun hk => h1 ?_, h2⟩
      exact List.mem_map.2 ⟨(k, .gone), List.mem_map.2 ⟨k, hk, rfl⟩, rfl⟩
  have hcase : ∀ k, (BoxOk s n0 ow ks (itRows is) (itBoxes is) (itSame is) k (bU k)) ∨ (k ∉ itBoxes is ∧ ((k ∈ gone ∧ bU k = .gone) ∨ (bU k = .nil) ∨ (k < n0 ∧ bU k = b1 k ∧ bU k = bget s.bt k ∧ k ∉ gone))) := fun k => by
    rcases bget_append ub (marks gone ++ s.bt) k with h | ⟨h1, h2⟩
    · exact .inl (p6 k _ h)
    · refine .inr ⟨fun hk => ?_, ?_⟩
      · obtain ⟨b, hb⟩ := p5 k hk
        exact h1 (List.mem_map.2 ⟨(k, b), hb, rfl⟩)
      · rcases hmk k with ⟨_, g2, g3⟩ | ⟨g1, g2⟩
        · exact .inl ⟨g2, h2.trans g3⟩
        · have hUk : bU k = bget s.bt k := h2.trans g2
          by_cases hnil : bget s.bt k = .nil
          · exact .inr (.inl (hUk.trans hnil))
          · obtain ⟨hlt, _⟩ := q2' k hnil
            have hBk : bget s.B k = bget s.bt k := by
              rcases bget_append s.bx s.bt k with h | ⟨_, h⟩
              · rcases c2' k _ h with h' | h' | h'
                · omega
                · obtain ⟨b, hb⟩ := p5 k h'
                  exact absurd (List.mem_map.2 ⟨(k, b), hb, rfl⟩) h1
                · exact absurd h' g1
              · exact h
            refine .inr (.inr ⟨hlt, ?_, hUk, g1⟩)
            rw [hUk, ← hBk]
            by_cases hks : k ∈ ks
            · rcases (c3' k hks).1 with h' | h' | h'
              · omega
              · exact absurd h' g1
              · refine (b1_var k fun full e q he => ?_).symm
                rw [hBk] at he
                rw [he] at h'; cases h'
            · exact (b1_out k hks).symm
  have hmade : ∀ k, k < n0 → (b1 k).made → (bU k).made := fun k hk hm => by
    rcases hcase k with h | ⟨h0, ⟨_, h⟩ | h | ⟨_, h, _⟩⟩
    · rcases h with ⟨_, _, _, _, _, _, _, h, _⟩ | ⟨_, _, _, _, h, _⟩ | ⟨_, _, _, _, h, _⟩ | ⟨_, _, h, _, h5⟩ <;> rw [h] <;> first | trivial | exact keepB_made h5
    · rw [h]; trivial
    · exfalso
      -- nothing stands there in the state either
      have hbt : bget s.bt k = .nil := by
        rcases bget_append ub (marks gone ++ s.bt) k with h' | ⟨_, h'⟩
        · rcases p6 k _ h' with ⟨_, _, _, _, _, _, _, h2, _⟩ | ⟨_, _, _, _, h2, _⟩ | ⟨_, _, _, _, h2, _⟩ | ⟨_, _, h2, _, h5⟩ <;> (have h3 : bU k = _ := h2; rw [h] at h3; first | (cases h3; done) | (subst h3; cases h5))
        · rcases hmk k with ⟨_, _, g3⟩ | ⟨_, g2⟩
          · have : bU k = .gone := h'.trans g3
            rw [h] at this; cases this
          · rw [← g2, ← h']; exact h
      have hng : k ∉ gone := fun hg => by
        rcases bget_append ub (marks gone ++ s.bt) k with h' | ⟨_, h'⟩
        · rcases p6 k _ h' with ⟨_, _, _, _, _, _, _, h2, _⟩ | ⟨_, _, _, _, h2, _⟩ | ⟨_, _, _, _, h2, _⟩ | ⟨_, _, h2, _, h5⟩ <;> (have h3 : bU k = _ := h2; rw [h] at h3; first | (cases h3; done) | (subst h3; cases h5))
        · rcases hmk k with ⟨_, _, g3⟩ | ⟨g1, _⟩
          · have : bU k = .gone := h'.trans g3
            rw [h] at this; cases this
          · exact g1 hg
      have hB' : bget s.B k = .nil := by
        rcases bget_append s.bx s.bt k with h' | ⟨_, h'⟩
        · rcases c2' k _ h' with h'' | h'' | h''
          · omega
          · exact absurd h'' h0
          · exact absurd h'' hng
        · exact h'.trans hbt
      rw [b1_var k (fun full e q he => by rw [hB'] at he; cases he), hB'] at hm
      exact hm
    · rw [h]; exact hm
  -- who owns a block now
  have hsrc : ∀ k b, own ρ' bU k = some b → ∃ j, own ρ b1 j = some b ∧ ((k < n0 ∧ j = k ∧ (k ∈ gone → k ∈ itBoxes is)) ∨ ∃ i, k = n0 + i ∧ ow[i]? = some j) := fun k b ho => by
    rcases hcase k with h | ⟨h0, ⟨_, h⟩ | h | ⟨hlt, h, _, hg⟩⟩
    · rcases h with ⟨i, j, full, et, q, rfl, hi, h2, h3⟩ | ⟨full, et, q, hr, h2, h3⟩ | ⟨ty, cs, cs', hkb, h2, h3, _⟩ | ⟨b0, hkb, h2, h3, hk0⟩
      · refine ⟨j, ?_, .inr ⟨i, rfl, hi⟩⟩
        have hjk : j ∉ ks := fun hk => (c3' j hk).2.2 (List.mem_of_getElem? hi)
        unfold own at ho ⊢
        rw [h2] at ho
        rw [b1_out j hjk, h3]
        simp only [(hhi i j hi).2] at ho
        exact ho
      · have hlt := c8' k hr
        have hjk : k ∉ ks := fun hk => (c3' k hk).2.1 hr
        refine ⟨k, ?_, .inl ⟨hlt, rfl, fun _ => ?_⟩⟩
        · unfold own at ho ⊢
          rw [h2] at ho
          rw [b1_out k hjk, h3]
          simp only [(hlo k hlt).2] at ho
          exact ho
        · have : ∀ l : List Item, k ∈ itRows l → k ∈ itBoxes l := fun l => by
            induction l with
            | nil => intro h; simp [itRows] at h
            | cons i l ih =>
              intro h
              unfold itRows at h
              unfold itBoxes
              cases hl : i.loc <;> rw [hl] at h <;> simp only [List.mem_cons] at h ⊢
              · exact ih h
              · exact .inr (ih h)
              · exact h.imp id ih
              · exact .inr (ih h)
              · exact .inr (ih h)
              · exact .inr (ih h)
          exact this is hr
      · have hlt : k < n0 := c7' k hkb
        refine ⟨k, ?_, .inl ⟨hlt, rfl, fun _ => hkb⟩⟩
        unfold own at ho ⊢
        rw [h2] at ho
        rw [b1_var k (fun full e q he => by rw [h3] at he; cases he), h3]
        simp only [(hlo k hlt).1] at ho
        exact ho
      · have hlt : k < n0 := c7' k hkb
        refine ⟨k, ?_, .inl ⟨hlt, rfl, fun _ => hkb⟩⟩
        rw [keepB_own (h2 ▸ hk0 : keepB (bU k) = true)] at ho
        rw [keepB_own (by rw [b1_var k (fun full e q he => by rw [h3] at he; subst he; cases hk0), h3]; exact hk0), ← (hlo k hlt).1]
        exact ho
    · unfold own at ho; rw [h] at ho; cases ho
    · unfold own at ho; rw [h] at ho; cases ho
    · refine ⟨k, ?_, .inl ⟨hlt, rfl, fun h' => absurd h' hg⟩⟩
      rw [← ho]
      exact (own_other h (hlo k hlt).1 (hlo k hlt).2).symm
  have hmut : ∀ b, Mut ρ' bU b → Mut ρ b1 b := fun b ⟨k, hk⟩ => by obtain ⟨j, hj, _⟩ := hsrc k b hk; exact ⟨j, hj⟩
  have hok : ∀ b, b < w.heap.size → okS ρ b1 b → okS ρ' bU b := fun b _ hb => ⟨fun hm => hb.1 (hmut b hm), hb.2⟩
  have H : EHyp s.B w ρ b1 ρ' bU n0 ow ks := ⟨hs1, hf1, fun i k hi => ⟨by
    obtain ⟨b, hb⟩ := p2 i (List.getElem?_eq_some_iff.1 hi).1
    rcases bget_append ub (marks gone ++ s.bt) (n0 + i) with h | ⟨h, _⟩
    · show (bU (n0 + i)).made
      rcases p6 _ _ h with ⟨_, _, _, _, _, _, _, h2, _⟩ | ⟨_, _, _, _, h2, _⟩ | ⟨_, _, _, _, h2, _⟩ | ⟨_, _, h2, _, h5⟩ <;> (have h3 : bU (n0 + i) = _ := h2; rw [h3]; first | trivial | exact keepB_made h5)
    · exact absurd (List.mem_map.2 ⟨(n0 + i, b), hb, rfl⟩) h, (hhi i k hi).2⟩, hok⟩
  have hmv : ∀ j, j ∈ low n0 → (b1 j).made → (bU j).made ∧ ρ'.β j = ρ.β j ∧ ρ'.hd j = ρ.hd j := fun j hj hm => by
    have hj : j < n0 := by simpa [low] using hj
    exact ⟨hmade j hj hm, hlo j hj⟩
  have rowMove : ∀ (k j : Nat) (full : Bool) (et : TypeId) (q : Row), ρ'.β k = ρ.β j → ρ'.hd k = ρ.hd j → SimBox w ρ b1 j (.row full et q) → SimBox w ρ' bU k (.row false et q) := fun k j full et q e1 e2 hb => by
    obtain ⟨xs, g1, g2, g3, g4⟩ := hb
    exact ⟨xs, by rw [e2]; exact g1, g2.ok hok, by rw [e1, e2]; exact g3, fun h => by cases h⟩
  have hsim : SimB w ρ' bU := ⟨hs1.base, fun k => by
    rcases hcase k with h | ⟨h0, ⟨_, h⟩ | h | ⟨hlt, h, h2, hg⟩⟩
    · rcases h with ⟨i, j, full, et, q, rfl, hi, h2, h3⟩ | ⟨full, et, q, hr, h2, h3⟩ | ⟨ty, cs, cs', hkb, h2, h3, h4⟩ | ⟨b0, hkb, h2, h3, hk0⟩
      · rw [h2]
        have hjk : j ∉ ks := fun hk => (c3' j hk).2.2 (List.mem_of_getElem? hi)
        have hb := hs1.box j
        rw [b1_out j hjk, h3] at hb
        exact rowMove _ j full et q (hhi i j hi).1 (hhi i j hi).2 hb
      · rw [h2]
        have hjk : k ∉ ks := fun hk => (c3' k hk).2.1 hr
        have hb := hs1.box k
        rw [b1_out k hjk, h3] at hb
        exact rowMove _ k full et q (hlo k (c8' k hr)).1 (hlo k (c8' k hr)).2 hb
      · rw [h2]
        have hb := hs1.box k
        rw [b1_var k (fun full e q he => by rw [h3] at he; cases he), h3] at hb
        obtain ⟨vs, g1, g2⟩ := hb
        have hβk : ρ'.β k = ρ.β k := (hlo k (c7' k hkb)).1
        exact ⟨vs, by rw [hβk]; exact g1, h4 w ρ b1 ρ' bU H (fun j hj hm => have hlt : j < n0 := of_decide_eq_true (List.all_eq_true.1 c9 j hj); ⟨hmade j hlt hm, hlo j hlt⟩) vs g2⟩
      · rw [h2]
        have hb := hs1.box k
        rw [b1_var k (fun full e q he => by rw [h3] at he; subst he; cases hk0), h3] at hb
        exact SimBox.move (K := low n0) (hlo k (c7' k hkb)).1 (hlo k (c7' k hkb)).2 hmv hok (fun _ _ _ _ _ _ _ ha => ha) (keepB_in hk0 _) hb
    · rw [h]; trivial
    · rw [h]; trivial
    · rw [h]
      have hne : bget s.bt k ≠ .nil ∨ bget s.bt k = .nil := (Classical.em _).symm
      rcases hne with hne | hne
      · refine SimBox.move (K := low n0) (hlo k hlt).1 (hlo k hlt).2 hmv hok (fun _ _ _ _ _ _ _ ha => ha) ?_ (hs1.box k)
        rw [← h, h2]; exact (q2' k hne).2
      · rw [← h, h2, hne]; trivial, fun k k' b e1 e2 => by
    obtain ⟨j, hj, hk⟩ := hsrc k b e1
    obtain ⟨j', hj', hk'⟩ := hsrc k' b e2
    have hjj := hs1.inj j j' b hj hj'
    subst hjj
    have mixed : ∀ k i, k < n0 → (k ∈ gone → k ∈ itBoxes is) → ow[i]? = some k → own ρ' bU k = some b → False := fun k i hlt hg hi ho => by
      obtain ⟨h1, h2⟩ := c4' k (List.mem_of_getElem? hi)
      have hkg : k ∈ gone := h1.resolve_left (by omega)
      -- it is an item's box, and no row
      rcases hcase k with h | ⟨h0, _⟩
      · have key : (∀ full et q, bget s.B k ≠ .row full et q) → False := fun h3 => by
          obtain ⟨b', hb'⟩ := p2 i (List.getElem?_eq_some_iff.1 hi).1
          obtain ⟨i', j', full', et', q', a1, a2, a3, a4⟩ | ⟨full', et', q', a1, a2, a3⟩ | ⟨ty', cs1, cs2, a1, a2, _⟩ | ⟨_, a1, a2, _⟩ := p6 _ _ hb'
          · have : i' = i := by omega
            subst this
            rw [hi] at a2
            injection a2 with a2
            subst a2
            exact h3 _ _ _ a4
          · have := c8' _ a1; omega
          · have := c7' _ a1; omega
          · have := c7' _ a1; omega
        rcases h with ⟨i', j', full, et, q, e, _⟩ | ⟨full, et, q, hr, _⟩ | ⟨ty, cs, cs', _, _, h3, _⟩ | ⟨b0, _, _, h3, hk0⟩
        · omega
        · exact h2 hr
        · exact key fun _ _ _ he => by rw [h3] at he; cases he
        · exact key fun _ _ _ he => by rw [h3] at he; subst he; cases hk0
      · exact h0 (hg hkg)
    rcases hk with ⟨a1, a2, a3⟩ | ⟨i, a1, a2⟩ <;> rcases hk' with ⟨b1', b2, b3⟩ | ⟨i', b1', b2⟩
    · rw [← a2, ← b2]
    · subst a2; exact (mixed j i' a1 a3 b2 e1).elim
    · subst b2; exact (mixed j i b1' b3 a2 e2).elim
    · have : i = i' := nodup_inj c6 a2 b2
      rw [a1, b1', this], hs1.glob.ext (Nat.le_refl _) fun b hb hlt => ⟨rfl, hok b hlt hb⟩⟩
  have hext : Ext S.w S.ρ S.b w ρ' bU := {
    below := hx1.below
    keep := hx1.keep
    mutOld := fun b hb hm => hx1.mutOld b hb (hmut b hm)
    env := fun k hm => by
      obtain ⟨e1, e2, e3⟩ := hx1.env k hm
      have hlt : k < n0 := Nat.lt_of_lt_of_le (S.lim k hm) hn0
      exact ⟨by rw [(hlo k hlt).1, e1], by rw [(hlo k hlt).2, e2], hmade k hlt e3⟩
    A := hx1.A }
  refine ⟨⟨ρ', by rw [hB]; exact hext, by rw [hB]; exact hsim, hfr1.1, fun t => ?_⟩, hd, hnb⟩
  rw [hR, hB]
  rcases lk_append ur s.tl t with h | ⟨h1, h2⟩
  · exact p3 t _ h w ρ b1 ρ' bU H _ (hfr1.2 t)
  · rw [h2]
    by_cases hdead : lk s.tl t = .dead
    · rw [hdead]; exact .dead _
    · have hlk : lk s.R t = lk s.tl t := by
        rcases lk_append s.fr s.tl t with h | ⟨_, h⟩
        · rcases c1' t _ h with h' | h'
          · obtain ⟨v, hv⟩ := p4 t h'
            exact absurd hv (h1 v)
          · exact absurd h' hdead
        · exact h
      have hr := hfr1.2 t
      rw [hlk] at hr
      exact Rep.move hmv hok 4 (q1' t hdead) hr
end Go.Cm
