/- The chain: a contact that opened interrupts it. No condition. -/
import Derived.Test.YtpjafflngappaaaChn6
namespace Go.Proofs.Ytpjafflngappaaa
open Go.Cm Go.Proofs

/-- the same but for an Until that may have ended -/
def Near (o o' : Contact) : Prop := o'.Closed = o.Closed ∧ o'.Latched = o.Latched ∧ (o'.Until = o.Until ∨ o'.Until = 0)
theorem Near.refl (o : Contact) : Near o o := ⟨rfl, rfl, .inl rfl⟩
theorem idx_at {c : Chain} (v : Val c) {p i : Nat} (hp : p < c.Contacts.length) {y : Int} (hi : idx c y = some i) (hy : (c.Contacts.getD p z_Contact).ID = y) : i = p := by
  obtain ⟨h1, h2⟩ := idx_some hi
  rcases Nat.lt_trichotomy i p with h | h | h
  · exact absurd (h2.trans hy.symm) (v.dis p i hp h)
  · exact h
  · exact absurd (hy.trans h2.symm) (v.dis i p h1 h)

/-- what an operation does to the contact p -/
theorem eff {c c' : Chain} {x : Op} (v : Val c) (h : Did c x c') {p : Nat} (hp : p < c.Contacts.length) {id : Int} (hid : (c.Contacts.getD p z_Contact).ID = id) :
    (x.ID = id ∧ x.Kind = 0 ∧ c'.Contacts.getD p z_Contact = breakO (c.Contacts.getD p z_Contact)) ∨
    (x.ID = id ∧ x.Kind = 1 ∧ c'.Contacts.getD p z_Contact = makeO (c.Contacts.getD p z_Contact)) ∨
    (x.ID = id ∧ x.Kind = 2 ∧ (c.Contacts.getD p z_Contact).Closed = true ∧ c'.Contacts.getD p z_Contact = clearO (c.Contacts.getD p z_Contact)) ∨
    (x.ID = id ∧ x.Kind = 4 ∧ c.Key ≠ 0 ∧ c.Key = x.By ∧ c'.Contacts.getD p z_Contact = untilO x.Time (c.Contacts.getD p z_Contact)) ∨
    ((x.ID ≠ id ∨ (x.Kind ≠ 0 ∧ x.Kind ≠ 2 ∧ x.Kind ≠ 4)) ∧ Near (c.Contacts.getD p z_Contact) (c'.Contacts.getD p z_Contact)) := by
  have one : ∀ (i : Nat) (f : Contact → Contact), idx c x.ID = some i → (x.ID = id ∧ (at1 c i f).Contacts.getD p z_Contact = f (c.Contacts.getD p z_Contact) ∧ i = p) ∨ (x.ID ≠ id ∧ (at1 c i f).Contacts.getD p z_Contact = c.Contacts.getD p z_Contact) := fun i f hi => by
    rw [at1_getD (idx_some hi).1]
    by_cases hx : x.ID = id
    · have := idx_at v hp hi (hid.trans hx.symm)
      exact .inl ⟨hx, by rw [if_pos this], this⟩
    · refine .inr ⟨hx, ?_⟩
      rw [if_neg]
      intro e
      subst e
      exact hx ((idx_some hi).2.symm.trans hid)
  cases h with
  | «break» i hk hi =>
    rcases one i breakO hi with ⟨h1, h2, _⟩ | ⟨h1, h2⟩
    · exact .inl ⟨h1, hk, h2⟩
    · exact .inr (.inr (.inr (.inr ⟨.inl h1, by rw [h2]; exact .refl _⟩)))
  | make i hk hi =>
    rcases one i makeO hi with ⟨h1, h2, _⟩ | ⟨h1, h2⟩
    · exact .inr (.inl ⟨h1, hk, h2⟩)
    · exact .inr (.inr (.inr (.inr ⟨.inl h1, by rw [h2]; exact .refl _⟩)))
  | clear i hk hi hc =>
    rcases one i clearO hi with ⟨h1, h2, h3⟩ | ⟨h1, h2⟩
    · subst h3; exact .inr (.inr (.inl ⟨h1, hk, hc, h2⟩))
    · exact .inr (.inr (.inr (.inr ⟨.inl h1, by rw [h2]; exact .refl _⟩)))
  | bypass i hk hi hb hb2 =>
    rcases one i (untilO x.Time) hi with ⟨h1, h2, _⟩ | ⟨h1, h2⟩
    · exact .inr (.inr (.inr (.inl ⟨h1, hk, fun e => hb (hb2.trans e), hb2.symm, h2⟩)))
    · exact .inr (.inr (.inr (.inr ⟨.inl h1, by rw [h2]; exact .refl _⟩)))
  | take hk => exact .inr (.inr (.inr (.inr ⟨.inr (by omega), .refl _⟩)))
  | give hk =>
    refine .inr (.inr (.inr (.inr ⟨.inr (by omega), ?_⟩)))
    show Near _ ((c.Contacts.map (untilO 0)).getD p z_Contact)
    rw [getD_map (untilO 0) c.Contacts p z_Contact z_Contact hp]
    exact ⟨rfl, rfl, .inr rfl⟩
  | expire hk =>
    refine .inr (.inr (.inr (.inr ⟨.inr (by omega), ?_⟩)))
    show Near _ ((c.Contacts.map (expO x.Time)).getD p z_Contact)
    rw [getD_map (expO x.Time) c.Contacts p z_Contact z_Contact hp]
    unfold expO
    cases decide ((c.Contacts.getD p z_Contact).Until ≤ x.Time)
    · exact .refl _
    · exact ⟨rfl, rfl, .inr rfl⟩

/-- what is known of the contact that opened -/
structure Opn (p : Nat) (id t : Int) (reset byp : Bool) (c : Chain) : Prop where
  val : Val c
  lt : p < c.Contacts.length
  id : (c.Contacts.getD p z_Contact).ID = id
  res : reset = true → (c.Contacts.getD p z_Contact).Latched = false ∧ (c.Contacts.getD p z_Contact).Closed = true
  lat : reset = false → (c.Contacts.getD p z_Contact).Latched = true
  byp : t < (c.Contacts.getD p z_Contact).Until → byp = true
theorem Opn.near {p : Nat} {id t : Int} {r b : Bool} {c c' : Chain} (h : Opn p id t r b c) (v : Val c') (hs : Sk c c') (hn : Near (c.Contacts.getD p z_Contact) (c'.Contacts.getD p z_Contact)) : Opn p id t r b c' where
  val := v
  lt := by rw [hs.1]; exact h.lt
  id := by rw [(hs.2 p h.lt).1]; exact h.id
  res := fun hr => by rw [hn.1, hn.2.1]; exact h.res hr
  lat := fun hr => by rw [hn.2.1]; exact h.lat hr
  byp := fun ht => by
    have hu := (h.val.unt p h.lt).1
    rcases hn.2.2 with e | e <;> rw [e] at ht
    · exact h.byp ht
    · exact h.byp (by omega)

theorem has_eq {N : Nat} (hN : 1000 < N) (l : List Int) (hl : l.length ≤ 1000) (y : Int) : l16_has N l y = some (decide (y ∈ l)) := by
  unfold l16_has
  rw [search (fun i => l.getD i 0 == y) (fun _ => true) () l.length (by omega) (fun i hi => ?_) (by simp)]
  · cases h : fst (fun i => l.getD i 0 == y) l.length with
    | none =>
      rw [fst_none] at h
      have : y ∉ l := fun hm => by
        obtain ⟨i, hi, e⟩ := mem_getD 0 hm
        have := h i hi
        rw [e] at this
        simp at this
      simp only [sres, Option.bind_some, Sum.elim_inl, this, decide_false]
    | some i =>
      rw [fst_some] at h
      have hm : y ∈ l := by
        have := getD_mem l i 0 h.1
        rwa [show l.getD i 0 = y by simpa using h.2.1] at this
      simp only [sres, Option.bind_some, Sum.elim_inr, hm, decide_true]
  · have h1 : decide ((i : Int) < (l.length : Int)) = true := by simp [hi]
    have h3 : decide ((0 : Int) ≤ (i : Int)) = true := by simp
    simp only [h1, h3, Bool.and_self, cond_true, Int.toNat_natCast, wrapN (show i < 9223372036854775807 by omega)]
theorem mem_faults {p : Nat} {id t : Int} {r b : Bool} {c : Chain} (h : Opn p id t r b c) : id ∈ faultsS c t ↔ faultO t (c.Contacts.getD p z_Contact) = true := by
  unfold faultsS
  simp only [List.mem_map, List.mem_filter]
  constructor
  · rintro ⟨o, ⟨ho, hf⟩, hid⟩
    obtain ⟨i, hi, rfl⟩ := mem_getD z_Contact ho
    have : i = p := by
      rcases Nat.lt_trichotomy i p with h1 | h1 | h1
      · exact absurd (hid.trans h.id.symm) (h.val.dis p i h.lt h1)
      · exact h1
      · exact absurd (h.id.trans hid.symm) (h.val.dis i p hi h1)
    subst this
    exact hf
  · intro hf
    exact ⟨_, ⟨getD_mem _ p _ h.lt, hf⟩, h.id⟩

theorem t_ChainInterrupts : AllW (fun y => y = some true) [TI.t_Chain, TI.t_i64, TI.l_Op, TI.t_i64] (l16_ChainInterrupts 2000) := fun (c : Chain) _ (id : Int) _ (l : List Op) _ (t : Int) _ => by
  show l16_ChainInterrupts 2000 c id l t = some true
  unfold l16_ChainInterrupts
  rw [alive_ok, right_eq (by omega)]
  by_cases h : rightS c = 0
  · have v := right_zero.1 h
    by_cases hl : (l.length : Int) > 30
    · simp [h, hl]
    · simp only [h, hl, Option.bind_some, bne_self_eq_false, decide_false, Bool.not_true, cond_false, do_eq (N := 2000) (by omega) v.l1000]
      rcases doS_cases c ⟨0, id, 0, 0⟩ with hd | ⟨c1, hd, hdid⟩
      · rw [hd]; rfl
      · rw [hd]
        simp only [Bool.not_true, cond_false]
        have v1 := hdid.val v
        -- the contact
        obtain ⟨p, hp, hid, hl1⟩ : ∃ p, p < c1.Contacts.length ∧ (c1.Contacts.getD p z_Contact).ID = id ∧ (c1.Contacts.getD p z_Contact).Latched = true := by
          have hs := hdid.sk
          cases hdid with
          | «break» i hk hi =>
            obtain ⟨g1, g2⟩ := idx_some hi
            refine ⟨i, by rw [hs.1]; exact g1, by rw [(hs.2 i g1).1]; exact g2, ?_⟩
            rw [at1_getD g1, if_pos rfl]
            rfl
          | make i hk => cases hk
          | clear i hk => cases hk
          | take hk => cases hk
          | give hk => cases hk
          | bypass i hk => cases hk
          | expire hk => exact absurd rfl hk.1
        -- whether it is bypassed
        refine bind_inv (fun k s => s.2 = (k : Int) ∧ (p < k → t < (c1.Contacts.getD p z_Contact).Until → s.1 = true)) (fun r => t < (c1.Contacts.getD p z_Contact).Until → r = true) c1.Contacts.length ⟨rfl, fun h => by omega⟩ (fun k s hk hI => ?_) (fun s hI => ?_) (by have := v1.l1000; omega) (fun b hb => ?_)
        · obtain ⟨b, i⟩ := s
          obtain ⟨rfl, hI⟩ := hI
          have h1 : decide ((k : Int) < (c1.Contacts.length : Int)) = true := by simp [hk]
          have h3 : decide ((0 : Int) ≤ (k : Int)) = true := by simp
          have hw := wrapN (i := k) (by have := v1.l1000; omega)
          left
          simp only [h1, h3, Bool.and_self, cond_true, Int.toNat_natCast, hw]
          cases b with
          | true => exact ⟨(true, (k : Int) + 1), rfl, by simp, fun _ _ => rfl⟩
          | false =>
            cases he : (c1.Contacts.getD k z_Contact).ID == id with
            | true =>
              refine ⟨(decide (t < (c1.Contacts.getD k z_Contact).Until), (k : Int) + 1), rfl, by simp, fun hpk ht => ?_⟩
              by_cases hpk' : p = k
              · subst hpk'; simpa using ht
              · exact absurd (hI (by omega) ht) (by simp)
            | false =>
              refine ⟨(false, (k : Int) + 1), rfl, by simp, fun hpk ht => ?_⟩
              by_cases hpk' : p = k
              · subst hpk'; rw [hid] at he; simp at he
              · exact absurd (hI (by omega) ht) (by simp)
        · obtain ⟨b, i⟩ := s
          obtain ⟨rfl, hI⟩ := hI
          exact ⟨b, by simp, hI hp⟩
        · -- the operations
          refine bind_inv (fun k s => s.2.2.1 = (k : Int) ∧ Opn p id t s.1 s.2.1 s.2.2.2) (fun r => ∃ x : Bool × Bool × Chain, r = .inl x ∧ Opn p id t x.1 x.2.1 x.2.2) l.length ⟨rfl, v1, hp, hid, fun h => (by cases h), fun _ => hl1, hb⟩ (fun k s hk hI => ?_) (fun s hI => ?_) (by omega) (fun r hr => ?_)
          · obtain ⟨r, y, i, d⟩ := s
            obtain ⟨rfl, ho⟩ := hI
            simp only at ho
            have h1 : decide ((k : Int) < (l.length : Int)) = true := by simp [hk]
            have h3 : decide ((0 : Int) ≤ (k : Int)) = true := by simp
            have hw := wrapN (i := k) (by omega)
            left
            simp only [h1, h3, Bool.and_self, cond_true, Int.toNat_natCast, hw, do_eq (N := 2000) (by omega) ho.val.l1000, Option.bind_some]
            obtain ⟨x, hx0⟩ : ∃ x, l.getD k z_Op = x := ⟨_, rfl⟩
            simp only [hx0]
            rcases doS_cases d x with hx | ⟨d', hx, hdx⟩
            · rw [hx]
              exact ⟨(r, y, (k : Int) + 1, d), rfl, by simp, ho⟩
            · rw [hx]
              simp only [Bool.not_true, cond_false, Option.bind_some]
              have v' := hdx.val ho.val
              have hs := hdx.sk
              have hp' : p < d'.Contacts.length := by rw [hs.1]; exact ho.lt
              have hid' : (d'.Contacts.getD p z_Contact).ID = id := by rw [(hs.2 p ho.lt).1]; exact ho.id
              rcases eff ho.val hdx ho.lt ho.id with ⟨e1, e2, e3⟩ | ⟨e1, e2, e3⟩ | ⟨e1, e2, ec, e3⟩ | ⟨e1, e2, ek, ekb, e3⟩ | ⟨e1, e3⟩
              · refine ⟨(false, y, (k : Int) + 1, d'), by simp [e1, e2], by simp, v', hp', hid', fun h => (by cases h), fun _ => by rw [e3]; rfl, fun ht => ho.byp (by rw [e3] at ht; exact ht)⟩
              · refine ⟨(r, y, (k : Int) + 1, d'), by simp [e1, e2], by simp, v', hp', hid', fun h => ?_, fun h => ?_, fun ht => ho.byp (by rw [e3] at ht; exact ht)⟩
                · rw [e3]; exact ⟨(ho.res h).1, rfl⟩
                · rw [e3]; exact ho.lat h
              · refine ⟨(true, y, (k : Int) + 1, d'), by simp [e1, e2], by simp, v', hp', hid', fun h => ?_, fun h => (by cases h), fun ht => ho.byp (by rw [e3] at ht; exact ht)⟩
                rw [e3]; exact ⟨rfl, ec⟩
              · have hk0 : (d.Key == 0) = false := by simpa using ek
                have hkb : (d.Key != x.By) = false := by simp [ekb]
                refine ⟨(r, y || decide (t < x.Time), (k : Int) + 1, d'), ?_, by simp, v', hp', hid', fun h => ?_, fun h => ?_, fun ht => ?_⟩
                · cases y <;> simp [e1, e2, hk0, hkb]
                · rw [e3]; exact ho.res h
                · rw [e3]; exact ho.lat h
                · rw [e3] at ht
                  have ht' : t < x.Time := ht
                  simp [ht']
              · refine ⟨(r, y, (k : Int) + 1, d'), ?_, by simp, ho.near v' hs e3⟩
                by_cases hx1 : x.ID = id
                · rcases e1 with e1 | ⟨k0, k2, k4⟩
                  · exact absurd hx1 e1
                  · have b0 : (x.Kind == 0) = false := by simpa using k0
                    have b2 : (x.Kind == 2) = false := by simpa using k2
                    have b4 : (x.Kind == 4) = false := by simpa using k4
                    simp [hx1, b0, b2, b4]
                · have bx : (x.ID != id) = true := by simpa using hx1
                  simp [bx]
          · obtain ⟨r, y, i, d⟩ := s
            obtain ⟨rfl, ho⟩ := hI
            exact ⟨.inl (r, y, d), by simp, (r, y, d), rfl, ho⟩
          · obtain ⟨⟨r, y, d⟩, rfl, ho⟩ := hr
            simp only at ho
            have hfl := faultsS_len (t := t) ho.val.l1000
            simp only [Sum.elim_inl, faults_eq (N := 2000) (by omega) ho.val.l1000, Option.bind_some, has_eq (N := 2000) (by omega) _ hfl]
            by_cases hm : id ∈ faultsS d t
            · have hf := (mem_faults ho).1 hm
              have hr : r = false := by
                cases r with
                | false => rfl
                | true =>
                  obtain ⟨g1, g2⟩ := ho.res rfl
                  rw [faultO, g1, g2] at hf
                  exact absurd hf (by simp)
              simp [hm, hr]
            · have hf : faultO t (d.Contacts.getD p z_Contact) = false := by
                cases hf : faultO t (d.Contacts.getD p z_Contact) with
                | false => rfl
                | true => exact absurd ((mem_faults ho).2 hf) hm
              cases r with
              | true => simp [hm]
              | false =>
                have g1 := ho.lat rfl
                have : t < (d.Contacts.getD p z_Contact).Until := by
                  simp only [faultO, g1, Bool.true_or, Bool.true_and, decide_eq_false_iff_not] at hf
                  omega
                simp [hm, ho.byp this]
  · have hb : (rightS c != 0) = true := by simpa using h
    simp only [Option.bind_some, hb, cond_true, Bool.not_true, cond_false]
end Go.Proofs.Ytpjafflngappaaa
