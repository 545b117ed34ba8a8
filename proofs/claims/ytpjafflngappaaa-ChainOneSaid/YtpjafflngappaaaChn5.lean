/- The chain: what an operation of any kind does to a valid chain; it stays valid. No condition. -/
import Derived.Test.YtpjafflngappaaaChn4
namespace Go.Proofs.Ytpjafflngappaaa
open Go.Cm Go.Proofs

def opS (c : Chain) (x : Op) : Chain × Int :=
  bif x.Kind == 0 then breakS c x.ID else bif x.Kind == 1 then makeS c x.ID else bif x.Kind == 2 then clearS c x.ID x.By
  else bif x.Kind == 3 then takeS c x.By else bif x.Kind == 4 then bypassS c x.ID x.By x.Time else (expS c x.Time, 0)
def doS (c : Chain) (x : Op) : Chain × Bool := bif (opS c x).2 != 0 then (c, false) else ((opS c x).1, true)

theorem do_eq {N : Nat} (hN : 1000 < N) {c : Chain} (hl : c.Contacts.length ≤ 1000) (x : Op) : l16_do N c x = some (doS c x) := by
  unfold l16_do doS opS
  simp only [break_eq hN hl, make_eq hN hl, clear_eq hN hl, take_eq hN hl, bypass_eq hN hl, expire_eq hN hl, Option.bind_some]
  cases x.Kind == 0
  · cases x.Kind == 1
    · cases x.Kind == 2
      · cases x.Kind == 3
        · cases x.Kind == 4
          · rfl
          · simp only [cond_true, cond_false, Option.bind_some]
            cases (bypassS c x.ID x.By x.Time).2 != 0 <;> rfl
        · simp only [cond_true, cond_false, Option.bind_some]
          cases (takeS c x.By).2 != 0 <;> rfl
      · simp only [cond_true, cond_false, Option.bind_some]
        cases (clearS c x.ID x.By).2 != 0 <;> rfl
    · simp only [cond_true, cond_false, Option.bind_some]
      cases (makeS c x.ID).2 != 0 <;> rfl
  · simp only [cond_true, cond_false, Option.bind_some]
    cases (breakS c x.ID).2 != 0 <;> rfl

/-- what was done -/
inductive Did (c : Chain) (x : Op) : Chain → Prop
  | break (i : Nat) (hk : x.Kind = 0) (hi : idx c x.ID = some i) : Did c x (at1 c i breakO)
  | make (i : Nat) (hk : x.Kind = 1) (hi : idx c x.ID = some i) : Did c x (at1 c i makeO)
  | clear (i : Nat) (hk : x.Kind = 2) (hi : idx c x.ID = some i) (hc : (c.Contacts.getD i z_Contact).Closed = true) : Did c x (at1 c i clearO)
  | take (hk : x.Kind = 3) (hb : 1 ≤ x.By ∧ x.By ≤ 9999) (h0 : c.Key = 0) : Did c x ⟨c.Contacts, x.By⟩
  | give (hk : x.Kind = 3) : Did c x ⟨c.Contacts.map (untilO 0), 0⟩
  | bypass (i : Nat) (hk : x.Kind = 4) (hi : idx c x.ID = some i) (hb : x.By ≠ 0) (hb2 : x.By = c.Key) (hc : (c.Contacts.getD i z_Contact).Critical = false)
      (ho : ∀ k, k < c.Contacts.length → k ≠ i → (c.Contacts.getD k z_Contact).Until = 0) (ht : 1 ≤ x.Time ∧ x.Time ≤ 20000000) : Did c x (at1 c i (untilO x.Time))
  | expire (hk : x.Kind ≠ 0 ∧ x.Kind ≠ 1 ∧ x.Kind ≠ 2 ∧ x.Kind ≠ 3 ∧ x.Kind ≠ 4) : Did c x (expS c x.Time)

theorem did {c : Chain} {x : Op} (h : (opS c x).2 = 0) : Did c x (opS c x).1 := by
  unfold opS at *
  cases h0 : x.Kind == 0 <;> simp only [h0, cond_true, cond_false] at h ⊢
  · cases h1 : x.Kind == 1 <;> simp only [h1, cond_true, cond_false] at h ⊢
    · cases h2 : x.Kind == 2 <;> simp only [h2, cond_true, cond_false] at h ⊢
      · cases h3 : x.Kind == 3 <;> simp only [h3, cond_true, cond_false] at h ⊢
        · cases h4 : x.Kind == 4 <;> simp only [h4, cond_true, cond_false] at h ⊢
          · exact .expire (by simp at h0 h1 h2 h3 h4; exact ⟨h0, h1, h2, h3, h4⟩)
          · unfold bypassS at *
            cases hi : idx c x.ID with
            | none => rw [hi] at h; cases h
            | some i =>
              rw [hi] at h
              simp only at h ⊢
              cases e1 : (x.By == 0 || x.By != c.Key) <;> simp only [e1, cond_true, cond_false] at h ⊢
              · cases e2 : (c.Contacts.getD i z_Contact).Critical <;> simp only [e2, cond_true, cond_false] at h ⊢
                · cases e3 : (fst (fun k => k != i && (c.Contacts.getD k z_Contact).Until != 0) c.Contacts.length) with
                  | none =>
                    simp only [e3, Option.isSome_none, cond_false] at h ⊢
                    cases e4 : (decide (x.Time < 1) || decide (x.Time > 20000000)) <;> simp only [e4, cond_true, cond_false] at h ⊢
                    · simp at h4 e1 e4
                      rw [fst_none] at e3
                      refine .bypass i h4 hi e1.1 e1.2 e2 (fun k hk hne => ?_) (by omega)
                      have := e3 k hk
                      simpa [hne] using this
                    · cases h
                  | some k => simp only [e3, Option.isSome_some, cond_true] at h; cases h
                · cases h
              · cases h
        · unfold takeS at *
          cases e1 : (decide (1 ≤ x.By) && decide (x.By ≤ 9999)) <;> simp only [e1, Bool.not_true, Bool.not_false, cond_true, cond_false] at h ⊢
          · cases h
          · cases e2 : (c.Key != 0 && c.Key != x.By) <;> simp only [e2, cond_true, cond_false] at h ⊢
            · cases e3 : c.Key == 0 <;> simp only [e3, cond_true, cond_false] at h ⊢
              · exact .give (by simpa using h3)
              · exact .take (by simpa using h3) (by simpa using e1) (by simpa using e3)
            · cases h
      · unfold clearS at *
        cases hi : idx c x.ID with
        | none => rw [hi] at h; cases h
        | some i =>
          rw [hi] at h
          simp only at h ⊢
          cases e1 : (decide (1 ≤ x.By) && decide (x.By ≤ 9999)) <;> simp only [e1, Bool.not_true, Bool.not_false, cond_true, cond_false] at h ⊢
          · cases h
          · cases e2 : (c.Contacts.getD i z_Contact).Closed <;> simp only [e2, Bool.not_true, Bool.not_false, cond_true, cond_false] at h ⊢
            · cases h
            · exact .clear i (by simpa using h2) hi e2
    · unfold makeS at *
      cases hi : idx c x.ID with
      | none => rw [hi] at h; cases h
      | some i => exact .make i (by simpa using h1) hi
  · unfold breakS at *
    cases hi : idx c x.ID with
    | none => rw [hi] at h; cases h
    | some i => exact .break i (by simpa using h0) hi

theorem doS_cases (c : Chain) (x : Op) : doS c x = (c, false) ∨ ∃ c', doS c x = (c', true) ∧ Did c x c' := by
  unfold doS
  cases h : (opS c x).2 != 0
  · exact .inr ⟨_, rfl, did (by simpa using h)⟩
  · exact .inl rfl

/-- the same contacts -/
def Sk (c c' : Chain) : Prop := c'.Contacts.length = c.Contacts.length ∧ ∀ i, i < c.Contacts.length → (c'.Contacts.getD i z_Contact).ID = (c.Contacts.getD i z_Contact).ID ∧ (c'.Contacts.getD i z_Contact).Critical = (c.Contacts.getD i z_Contact).Critical
theorem Sk.refl (c : Chain) : Sk c c := ⟨rfl, fun _ _ => ⟨rfl, rfl⟩⟩
theorem Sk.trans {a b c : Chain} (h : Sk a b) (h' : Sk b c) : Sk a c := ⟨h'.1.trans h.1, fun i hi => ⟨(h'.2 i (by rw [h.1]; exact hi)).1.trans (h.2 i hi).1, (h'.2 i (by rw [h.1]; exact hi)).2.trans (h.2 i hi).2⟩⟩
theorem at1_getD {c : Chain} {i : Nat} (hi : i < c.Contacts.length) (f : Contact → Contact) (j : Nat) : (at1 c i f).Contacts.getD j z_Contact = if i = j then f (c.Contacts.getD j z_Contact) else c.Contacts.getD j z_Contact := by
  simp only [at1]
  rw [getD_set _ _ _ _ _ hi]
  by_cases h : i = j
  · subst h; rfl
  · rw [if_neg h, if_neg h]
theorem Did.sk {c c' : Chain} {x : Op} (h : Did c x c') : Sk c c' := by
  have one : ∀ (i : Nat) (f : Contact → Contact), idx c x.ID = some i → (∀ o, (f o).ID = o.ID ∧ (f o).Critical = o.Critical) → Sk c (at1 c i f) := fun i f hi hf =>
    ⟨by simp [at1], fun j hj => by
      rw [at1_getD (idx_some hi).1]
      by_cases hij : i = j
      · rw [if_pos hij]; exact hf _
      · rw [if_neg hij]; exact ⟨rfl, rfl⟩⟩
  have all : ∀ (f : Contact → Contact) (k : Int), (∀ o, (f o).ID = o.ID ∧ (f o).Critical = o.Critical) → Sk c ⟨c.Contacts.map f, k⟩ := fun f k hf =>
    ⟨by simp, fun j hj => by
      show ((c.Contacts.map f).getD j z_Contact).ID = _ ∧ ((c.Contacts.map f).getD j z_Contact).Critical = _
      rw [getD_map f c.Contacts j z_Contact z_Contact hj]; exact hf _⟩
  cases h with
  | «break» i hk hi => exact one i _ hi fun o => ⟨rfl, rfl⟩
  | make i hk hi => exact one i _ hi fun o => ⟨rfl, rfl⟩
  | clear i hk hi => exact one i _ hi fun o => ⟨rfl, rfl⟩
  | bypass i hk hi => exact one i _ hi fun o => ⟨rfl, rfl⟩
  | take => exact ⟨rfl, fun _ _ => ⟨rfl, rfl⟩⟩
  | give => exact all _ _ fun o => ⟨rfl, rfl⟩
  | expire => exact all _ _ fun o => by unfold expO; cases decide (o.Until ≤ x.Time) <;> exact ⟨rfl, rfl⟩

/-- contacts whose Until stays or ends -/
theorem Val.low {c c' : Chain} (v : Val c) (hs : Sk c c') (hk : c'.Key = c.Key) (hst : ∀ i, i < c.Contacts.length → (c'.Contacts.getD i z_Contact).Closed = true ∨ (c'.Contacts.getD i z_Contact).Latched = true)
    (hu : ∀ i, i < c.Contacts.length → (c'.Contacts.getD i z_Contact).Until = (c.Contacts.getD i z_Contact).Until ∨ (c'.Contacts.getD i z_Contact).Until = 0) : Val c' where
  len := by rw [hs.1]; exact v.len
  key := by rw [hk]; exact v.key
  ids := fun i hi => by rw [hs.1] at hi; rw [(hs.2 i hi).1]; exact v.ids i hi
  unt := fun i hi => by
    rw [hs.1] at hi
    rcases hu i hi with h | h <;> rw [h]
    · exact v.unt i hi
    · omega
  dis := fun i j hi hj => by rw [hs.1] at hi; rw [(hs.2 i hi).1, (hs.2 j (by omega)).1]; exact v.dis i j hi hj
  st := fun i hi => by rw [hs.1] at hi; exact hst i hi
  crit := fun i hi hc => by
    rw [hs.1] at hi
    rw [(hs.2 i hi).2] at hc
    rcases hu i hi with h | h <;> rw [h]
    exact v.crit i hi hc
  byp := fun i hi hn => by
    rw [hs.1] at hi
    rcases hu i hi with h | h
    · rw [h] at hn
      obtain ⟨h1, h2⟩ := v.byp i hi hn
      refine ⟨by rw [hk]; exact h1, fun j hj => ?_⟩
      rcases hu j (by omega) with h3 | h3 <;> rw [h3]
      exact h2 j hj
    · exact absurd h hn
theorem Did.val {c c' : Chain} {x : Op} (v : Val c) (h : Did c x c') : Val c' := by
  have hs := h.sk
  have one : ∀ (i : Nat) (f : Contact → Contact), idx c x.ID = some i → Sk c (at1 c i f) → (∀ o, (f o).Until = o.Until) → ((f (c.Contacts.getD i z_Contact)).Closed = true ∨ (f (c.Contacts.getD i z_Contact)).Latched = true) → Val (at1 c i f) := fun i f hi hs hf hc =>
    v.low hs rfl (fun j hj => by
      rw [at1_getD (idx_some hi).1]
      by_cases hij : i = j
      · subst hij; rw [if_pos rfl]; exact hc
      · rw [if_neg hij]; exact v.st j hj) (fun j hj => by
      rw [at1_getD (idx_some hi).1]
      by_cases hij : i = j
      · rw [if_pos hij, hf]; exact .inl rfl
      · rw [if_neg hij]; exact .inl rfl)
  cases h with
  | «break» i hk hi => exact one i _ hi hs (fun o => rfl) (.inr rfl)
  | make i hk hi => exact one i _ hi hs (fun o => rfl) (.inl rfl)
  | clear i hk hi hc => exact one i _ hi hs (fun o => rfl) (.inl hc)
  | take hk hb h0 =>
    exact { len := v.len, key := ⟨by show 0 ≤ x.By; omega, hb.2⟩, ids := v.ids, unt := v.unt, dis := v.dis, st := v.st, crit := v.crit, byp := fun i hi hn => absurd h0 (v.byp i hi hn).1 }
  | give =>
    have hg : ∀ i, i < c.Contacts.length → (c.Contacts.map (untilO 0)).getD i z_Contact = untilO 0 (c.Contacts.getD i z_Contact) := fun i hi => getD_map _ _ _ _ _ hi
    have hl : (c.Contacts.map (untilO 0)).length = c.Contacts.length := by simp
    have w : Val ⟨c.Contacts.map (untilO 0), c.Key⟩ := v.low ⟨hl, fun i hi => by simp only [hg i hi]; exact ⟨rfl, rfl⟩⟩ rfl (fun i hi => by simp only [hg i hi]; exact v.st i hi) (fun i hi => by simp only [hg i hi]; exact .inr rfl)
    exact { len := w.len, key := by simp, ids := w.ids, unt := w.unt, dis := w.dis, st := w.st, crit := w.crit, byp := fun i hi hn => absurd (by rw [show (Chain.mk (c.Contacts.map (untilO 0)) 0).Contacts.getD i z_Contact = _ from hg i (by rw [← hl]; exact hi)]; rfl) hn }
  | expire =>
    have hg : ∀ i, i < c.Contacts.length → (expS c x.Time).Contacts.getD i z_Contact = expO x.Time (c.Contacts.getD i z_Contact) := fun i hi => getD_map _ _ _ _ _ hi
    refine v.low hs rfl (fun i hi => ?_) (fun i hi => ?_)
    · rw [hg i hi]
      have := v.st i hi
      unfold expO
      cases decide ((c.Contacts.getD i z_Contact).Until ≤ x.Time) <;> exact this
    · rw [hg i hi]
      unfold expO
      cases decide ((c.Contacts.getD i z_Contact).Until ≤ x.Time)
      · exact .inl rfl
      · exact .inr rfl
  | bypass i hk hi hb hb2 hc ho ht =>
    have hil := (idx_some hi).1
    have hg := at1_getD hil (untilO x.Time)
    have hl : (at1 c i (untilO x.Time)).Contacts.length = c.Contacts.length := hs.1
    have w : ∀ k, k < c.Contacts.length → k ≠ i → ((at1 c i (untilO x.Time)).Contacts.getD k z_Contact).Until = 0 := fun k hk hne => by
      rw [hg, if_neg (Ne.symm hne)]; exact ho k hk hne
    have wi : ((at1 c i (untilO x.Time)).Contacts.getD i z_Contact).Until = x.Time := by rw [hg, if_pos rfl]; rfl
    exact {
      len := by rw [hl]; exact v.len
      key := v.key
      ids := fun j hj => by rw [hl] at hj; rw [(hs.2 j hj).1]; exact v.ids j hj
      unt := fun j hj => by
        rw [hl] at hj
        by_cases hji : j = i
        · subst hji; rw [wi]; omega
        · rw [w j hj hji]; omega
      dis := fun j k hj hk => by rw [hl] at hj; rw [(hs.2 j hj).1, (hs.2 k (by omega)).1]; exact v.dis j k hj hk
      st := fun j hj => by
        rw [hl] at hj
        rw [hg]
        have := v.st j hj
        by_cases hji : i = j
        · rw [if_pos hji]; exact this
        · rw [if_neg hji]; exact this
      crit := fun j hj hcr => by
        rw [hl] at hj
        rw [(hs.2 j hj).2] at hcr
        by_cases hji : j = i
        · subst hji; rw [hc] at hcr; cases hcr
        · exact w j hj hji
      byp := fun j hj hn => by
        rw [hl] at hj
        refine ⟨fun h => hb (hb2.trans h), fun k hk => ?_⟩
        by_cases hji : j = i
        · exact w k (by omega) (by omega)
        · exact absurd (w j hj hji) hn }
theorem doS_val {c : Chain} (v : Val c) (x : Op) : Val (doS c x).1 ∧ Sk c (doS c x).1 := by
  rcases doS_cases c x with h | ⟨c', h, hd⟩ <;> rw [h]
  · exact ⟨v, Sk.refl c⟩
  · exact ⟨hd.val v, hd.sk⟩
end Go.Proofs.Ytpjafflngappaaa
