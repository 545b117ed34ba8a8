/- The chain: valid chains; Take and Bypass; the laws of the operations in plain words. No condition. -/
import Derived.Test.YtpjafflngappaaaChn3
import Derived.Test.YtpjafflngappaaaCmp
namespace Go.Proofs.Ytpjafflngappaaa
open Go.Cm Go.Proofs

structure Val (c : Chain) : Prop where
  len : c.Contacts.length ≤ 32
  key : 0 ≤ c.Key ∧ c.Key ≤ 9999
  ids : ∀ i, i < c.Contacts.length → 1 ≤ (c.Contacts.getD i z_Contact).ID ∧ (c.Contacts.getD i z_Contact).ID ≤ 9999
  unt : ∀ i, i < c.Contacts.length → 0 ≤ (c.Contacts.getD i z_Contact).Until ∧ (c.Contacts.getD i z_Contact).Until ≤ 20000000
  dis : ∀ i j, i < c.Contacts.length → j < i → (c.Contacts.getD j z_Contact).ID ≠ (c.Contacts.getD i z_Contact).ID
  st : ∀ i, i < c.Contacts.length → (c.Contacts.getD i z_Contact).Closed = true ∨ (c.Contacts.getD i z_Contact).Latched = true
  crit : ∀ i, i < c.Contacts.length → (c.Contacts.getD i z_Contact).Critical = true → (c.Contacts.getD i z_Contact).Until = 0
  byp : ∀ i, i < c.Contacts.length → (c.Contacts.getD i z_Contact).Until ≠ 0 → c.Key ≠ 0 ∧ ∀ j, j < i → (c.Contacts.getD j z_Contact).Until = 0
theorem dup_false {l : List Contact} {i : Nat} : dup l i = false ↔ ∀ j, j < i → (l.getD j z_Contact).ID ≠ (l.getD i z_Contact).ID := by
  unfold dup
  rw [Option.isSome_eq_false_iff, Option.isNone_iff_eq_none, fst_none]
  constructor <;> intro h j hj <;> simpa using h j hj
theorem byp_false {l : List Contact} {i : Nat} : byp l i = false ↔ ∀ j, j < i → (l.getD j z_Contact).Until = 0 := by
  unfold byp
  rw [Option.isSome_eq_false_iff, Option.isNone_iff_eq_none, fst_none]
  constructor <;> intro h j hj <;> simpa using h j hj
theorem errO_zero {o : Contact} {k : Int} {d b : Bool} : errO o k d b = 0 ↔ (1 ≤ o.ID ∧ o.ID ≤ 9999) ∧ (0 ≤ o.Until ∧ o.Until ≤ 20000000) ∧ d = false ∧ (o.Closed = true ∨ o.Latched = true) ∧ (o.Critical = true → o.Until = 0) ∧ (o.Until ≠ 0 → k ≠ 0 ∧ b = false) := by
  unfold errO
  by_cases h1 : o.ID < 1
  · simp [h1]; omega
  by_cases h2 : o.ID > 9999
  · simp [h1, h2]; omega
  by_cases h3 : o.Until < 0
  · simp [h1, h2, h3]; omega
  by_cases h4 : o.Until > 20000000
  · simp [h1, h2, h3, h4]; omega
  have e1 : (1 ≤ o.ID ∧ o.ID ≤ 9999) := by omega
  have e2 : (0 ≤ o.Until ∧ o.Until ≤ 20000000) := by omega
  simp only [h1, h2, h3, h4, decide_false, Bool.or_self, cond_false, e1, e2, and_self, true_and]
  cases d
  · cases o.Closed <;> cases o.Latched <;> cases o.Critical <;> by_cases h5 : o.Until = 0 <;> by_cases h6 : k = 0 <;> cases b <;> simp [Bool.cond_eq_ite, h5, h6]
  · simp
theorem right_zero {c : Chain} : rightS c = 0 ↔ Val c := by
  unfold rightS
  by_cases h1 : c.Contacts.length > 32
  · simp only [h1, decide_true, cond_true]
    exact ⟨fun h => absurd h (by decide), fun h => absurd h.len (by omega)⟩
  by_cases h2 : c.Key < 0
  · simp only [h1, h2, decide_true, decide_false, cond_true, cond_false, Bool.true_or]
    exact ⟨fun h => absurd h (by decide), fun h => absurd h.key.1 (by omega)⟩
  by_cases h3 : c.Key > 9999
  · simp only [h1, h2, h3, decide_true, decide_false, cond_true, cond_false, Bool.or_true]
    exact ⟨fun h => absurd h (by decide), fun h => absurd h.key.2 (by omega)⟩
  simp only [h1, h2, h3, decide_false, cond_false, Bool.or_self]
  have hv : Val c ↔ ∀ i, i < c.Contacts.length → errAt c i = 0 := by
    constructor
    · intro v i hi
      unfold errAt
      rw [errO_zero]
      exact ⟨v.ids i hi, v.unt i hi, dup_false.2 fun j hj => v.dis i j hi hj, v.st i hi, v.crit i hi, fun h => ⟨(v.byp i hi h).1, byp_false.2 (v.byp i hi h).2⟩⟩
    · intro h
      have h' : ∀ i, i < c.Contacts.length → _ := fun i hi => errO_zero.1 (h i hi)
      exact ⟨by omega, by omega, fun i hi => (h' i hi).1, fun i hi => (h' i hi).2.1, fun i j hi hj => dup_false.1 (h' i hi).2.2.1 j hj, fun i hi => (h' i hi).2.2.2.1, fun i hi => (h' i hi).2.2.2.2.1, fun i hi hu => ⟨((h' i hi).2.2.2.2.2 hu).1, byp_false.1 ((h' i hi).2.2.2.2.2 hu).2⟩⟩
  rw [hv]
  cases hf : fst (fun i => errAt c i != 0) c.Contacts.length with
  | none =>
    rw [fst_none] at hf
    exact ⟨fun _ i hi => by simpa using hf i hi, fun _ => rfl⟩
  | some i =>
    rw [fst_some] at hf
    have h4 : errAt c i ≠ 0 := by simpa using hf.2.1
    exact ⟨fun h => absurd h h4, fun h => absurd (h i hf.1) h4⟩

section
variable {N : Nat} (hN : 1000 < N) {c : Chain}
include hN
theorem take_eq (hl : c.Contacts.length ≤ 1000) (by' : Int) : chain_Take N c by' = some (takeS c by') := by
  unfold chain_Take takeS
  rw [isPerson_eq, clone_eq c hl]
  cases (decide (1 ≤ by') && decide (by' ≤ 9999)) <;> try rfl
  cases h2 : c.Key == 0 <;> cases h3 : c.Key == by' <;> simp only [bne, h2, h3, Option.bind_some, cond_true, cond_false, Bool.not_true, Bool.not_false, Bool.and_self, Bool.and_false, Bool.false_and, Bool.and_true]
  have hT : (c.Contacts.map (untilO 0)).length = c.Contacts.length := by simp
  refine (bind_while (r0 := c.Contacts.map (untilO 0)) (whileF_eq (fun k s => s = ((k : Int), mixd (c.Contacts.map (untilO 0)) c.Contacts k)) c.Contacts.length (by simp [mixd_zero]) (fun k s hk hI => ?_) (fun s hI => ?_) (by omega))).trans ?_
  · subst hI
    left
    have h1 : decide ((k : Int) < (c.Contacts.length : Int)) = true := by simp [hk]
    have h3 : decide ((0 : Int) ≤ (k : Int)) = true := by simp
    refine ⟨_, ?_, rfl⟩
    have hg := getD_map (untilO 0) c.Contacts k z_Contact z_Contact hk
    simp only [Int.toNat_natCast, mixd_len hT, mixd_getD hT hk, h1, h3, Bool.and_self, cond_true, wrapN (show k < 9223372036854775807 by omega)]
    rw [mixd_set hT hk _ z_Contact (by rw [hg]; rfl)]
    rfl
  · subst hI
    simp [mixd_all hT]
  · rfl
theorem rtake_eq (v : Val c) (by' : Int) : r16_Take N c by' = some (takeS c by') := by
  have hl : c.Contacts.length ≤ 1000 := by have := v.len; omega
  unfold r16_Take takeS
  rw [in_eq, with_none hN hl, rexpire_eq hN hl]
  have he : expS c 20000000 = ⟨c.Contacts.map (untilO 0), c.Key⟩ := by
    unfold expS
    congr 1
    refine List.map_congr_left fun o ho => ?_
    obtain ⟨i, hi, rfl⟩ := mem_getD z_Contact ho
    simp only [expO, (v.unt i hi).2, decide_true, cond_true]
  rw [he]
  cases (decide (1 ≤ by') && decide (by' ≤ 9999)) <;> try rfl
  cases h2 : c.Key == 0 <;> cases h3 : c.Key == by' <;> simp only [bne, h2, h3, Option.bind_some, cond_true, cond_false, Bool.not_true, Bool.not_false, Bool.and_self, Bool.and_false, Bool.false_and, Bool.and_true]
theorem bypass_eq (hl : c.Contacts.length ≤ 1000) (id by' u : Int) : chain_Bypass N c id by' u = some (bypassS c id by' u) := by
  unfold chain_Bypass bypassS
  rw [find_idx hN hl]
  cases h : idx c id with
  | none => rfl
  | some i =>
    have hi := (idx_some h).1
    simp only [oi, Option.bind_some, Int.toNat_natCast, clone_eq c hl]
    have h1 : decide ((i : Int) < (c.Contacts.length : Int)) = true := by simp [hi]
    have h2 : decide ((i : Int) < 0) = false := by simp
    have h3 : decide ((0 : Int) ≤ (i : Int)) = true := by simp
    simp only [h1, h2, h3, Bool.and_self, cond_true, cond_false]
    cases h4 : by' == 0 <;> cases h5 : by' == c.Key <;> simp only [bne, h5, Option.bind_some, cond_true, cond_false, Bool.not_true, Bool.not_false, Bool.or_self, Bool.or_true, Bool.true_or, Bool.or_false]
    cases h6 : (c.Contacts.getD i z_Contact).Critical <;> simp only [cond_true, cond_false]
    have hw : whileF N (fun (p6 : Int × Chain) =>
        bif decide (p6.fst < (↑c.Contacts.length : Int)) then
          (bif !(p6.fst == (i : Int)) then
                bif decide ((0 : Int) ≤ p6.fst) && decide (p6.fst < (↑c.Contacts.length : Int)) then
                  some (!((c.Contacts.getD (Int.toNat p6.fst) z_Contact).Until == (0 : Int)))
                else none
              else some false).bind
            fun (r7 : Bool) =>
            bif r7 then some (Sum.inr (Sum.inr ((15 : Int), z_Chain)))
            else some (Sum.inl (IntKind.i64.wrap (p6.fst + (1 : Int)), p6.snd))
        else some (Sum.inr (Sum.inl p6.snd))) ((0 : Int), z_Chain) = some (sres (fun _ => ((15 : Int), z_Chain)) z_Chain (fst (fun k => !(k == i) && !((c.Contacts.getD k z_Contact).Until == 0)) c.Contacts.length)) := by
      refine whileF_eq (fun k s => s = ((k : Int), z_Chain) ∧ ∀ j, j < k → (!(j == i) && !((c.Contacts.getD j z_Contact).Until == 0)) = false) c.Contacts.length ⟨rfl, fun j hj => by omega⟩ (fun k s hk hI => ?_) (fun s hI => ?_) (by omega)
      · obtain ⟨rfl, hI⟩ := hI
        have g1 : decide ((k : Int) < (c.Contacts.length : Int)) = true := by simp [hk]
        have g3 : decide ((0 : Int) ≤ (k : Int)) = true := by simp
        have g4 : ((k : Int) == (i : Int)) = (k == i) := by rw [Bool.eq_iff_iff]; simp [Int.ofNat_inj]
        simp only [g1, g3, g4, Bool.and_self, cond_true, Int.toNat_natCast, wrapN (show k < 9223372036854775807 by omega)]
        cases hp : (!(k == i) && !((c.Contacts.getD k z_Contact).Until == 0)) with
        | false =>
          left
          refine ⟨((k + 1 : Nat), z_Chain), ?_, rfl, fun j hj => by rcases Nat.lt_succ_iff_lt_or_eq.1 hj with h | rfl; exact hI j h; exact hp⟩
          cases e1 : k == i <;> cases e2 : (c.Contacts.getD k z_Contact).Until == 0 <;> simp only [e1, e2] at hp <;> first | rfl | cases hp
        | true =>
          right
          rw [fst_some.2 ⟨hk, hp, hI⟩]
          cases e1 : k == i <;> cases e2 : (c.Contacts.getD k z_Contact).Until == 0 <;> simp only [e1, e2] at hp <;> first | rfl | cases hp
      · obtain ⟨rfl, hI⟩ := hI
        rw [fst_none.2 hI]
        simp [sres]
    rw [hw]
    generalize fst (fun k => !(k == i) && !((c.Contacts.getD k z_Contact).Until == 0)) c.Contacts.length = q
    cases q with
    | none =>
      simp only [sres, Sum.elim_inl, Option.bind_some, Option.isSome_none, cond_false]
      cases decide (u < 1) <;> cases decide (u > 20000000) <;> first | rfl | (simp only [at1, untilO, h6]; rfl)
    | some k => rfl
theorem rbypass_eq (v : Val c) (id by' u : Int) : r16_Bypass N c id by' u = some (bypassS c id by' u) := by
  have hl : c.Contacts.length ≤ 1000 := by have := v.len; omega
  unfold r16_Bypass bypassS
  rw [index_idx hN hl, bypassed_eq hN _ hl]
  cases h : idx c id with
  | none => rfl
  | some i =>
    have hi := (idx_some h).1
    simp only [show oi (some i) = (i : Int) from rfl, Option.bind_some, Int.toNat_natCast, in_eq]
    have h1 : decide ((i : Int) < (c.Contacts.length : Int)) = true := by simp [hi]
    have h2 : decide ((i : Int) < 0) = false := by simp
    have h3 : decide ((0 : Int) ≤ (i : Int)) = true := by simp
    have hw := with_at hN hl i hi (untilO u)
    unfold untilO at hw
    rw [hw]
    simp only [h1, h2, h3, Bool.and_self, cond_true, cond_false]
    cases h4 : by' == 0 <;> cases h5 : by' == c.Key <;> simp only [bne, h5, Option.bind_some, cond_true, cond_false, Bool.not_true, Bool.not_false, Bool.or_self, Bool.or_true, Bool.true_or, Bool.or_false]
    cases h6 : (c.Contacts.getD i z_Contact).Critical <;> simp only [cond_true, cond_false]
    have hq : (bif decide (oi (fst (fun i => !((c.Contacts.getD i z_Contact).Until == 0)) c.Contacts.length) ≥ 0) then some (!(oi (fst (fun i => !((c.Contacts.getD i z_Contact).Until == 0)) c.Contacts.length) == (i : Int))) else some false) = some (fst (fun k => !(k == i) && !((c.Contacts.getD k z_Contact).Until == 0)) c.Contacts.length).isSome := by
      cases hf : fst (fun i => !((c.Contacts.getD i z_Contact).Until == 0)) c.Contacts.length with
      | none =>
        rw [fst_none] at hf
        have : fst (fun k => !(k == i) && !((c.Contacts.getD k z_Contact).Until == 0)) c.Contacts.length = none := fst_none.2 fun k hk => by rw [hf k hk, Bool.and_false]
        rw [this]
        rfl
      | some k =>
        rw [fst_some] at hf
        obtain ⟨f1, f2, f3⟩ := hf
        have hk0 : decide (oi (some k) ≥ 0) = true := by simp [oi]
        rw [hk0, cond_true]
        congr 1
        by_cases hki : k = i
        · subst hki
          have : fst (fun j => !(j == k) && !((c.Contacts.getD j z_Contact).Until == 0)) c.Contacts.length = none := fst_none.2 fun j hj => by
            by_cases hjk : j = k
            · simp [hjk]
            · have hk' : (c.Contacts.getD k z_Contact).Until ≠ 0 := by simpa using f2
              have hj' : (c.Contacts.getD j z_Contact).Until = 0 := by
                rcases Nat.lt_or_ge j k with h | h
                · exact (v.byp k f1 hk').2 j h
                · by_cases hz : (c.Contacts.getD j z_Contact).Until = 0
                  · exact hz
                  · exact absurd ((v.byp j hj hz).2 k (by omega)) hk'
              rw [hj']
              simp
          rw [this]
          simp [oi]
        · have : (fst (fun j => !(j == i) && !((c.Contacts.getD j z_Contact).Until == 0)) c.Contacts.length).isSome = true := by
            cases hz : fst (fun j => !(j == i) && !((c.Contacts.getD j z_Contact).Until == 0)) c.Contacts.length with
            | some _ => rfl
            | none =>
              rw [fst_none] at hz
              have := hz k f1
              rw [f2] at this
              simp [hki] at this
          rw [this]
          simp [oi]
          omega
    rw [hq]
    generalize (fst (fun k => !(k == i) && !((c.Contacts.getD k z_Contact).Until == 0)) c.Contacts.length).isSome = q
    cases q
    · have e1 : (!(decide (1 ≤ u) && decide (u ≤ 20000000))) = (decide (u < 1) || decide (u > 20000000)) := by
        by_cases h1 : 1 ≤ u <;> by_cases h2 : u ≤ 20000000 <;> simp [h1, h2] <;> omega
      simp only [Option.bind_some, cond_false, e1]
      cases decide (u < 1) || decide (u > 20000000) <;> rfl
    · rfl
end

theorem breakS_len {c : Chain} {id : Int} (h : c.Contacts.length ≤ 1000) : (breakS c id).1.Contacts.length ≤ 1000 := by
  unfold breakS
  split
  · exact Nat.zero_le _
  · simpa [at1] using h
theorem makeS_len {c : Chain} {id : Int} (h : c.Contacts.length ≤ 1000) : (makeS c id).1.Contacts.length ≤ 1000 := by
  unfold makeS
  split
  · exact Nat.zero_le _
  · simpa [at1] using h
theorem clearS_len {c : Chain} {id b : Int} (h : c.Contacts.length ≤ 1000) : (clearS c id b).1.Contacts.length ≤ 1000 := by
  unfold clearS
  split
  · exact Nat.zero_le _
  · cases !(decide (1 ≤ b) && decide (b ≤ 9999))
    · rename_i i _
      cases !(c.Contacts.getD i z_Contact).Closed
      · simpa [at1] using h
      · exact Nat.zero_le _
    · exact Nat.zero_le _
theorem takeS_len {c : Chain} {b : Int} (h : c.Contacts.length ≤ 1000) : (takeS c b).1.Contacts.length ≤ 1000 := by
  unfold takeS
  cases !(decide (1 ≤ b) && decide (b ≤ 9999)) <;> cases c.Key != 0 && c.Key != b <;> cases c.Key == 0 <;> first | exact Nat.zero_le _ | exact h | (simpa using h)
theorem bypassS_len {c : Chain} {id b u : Int} (h : c.Contacts.length ≤ 1000) : (bypassS c id b u).1.Contacts.length ≤ 1000 := by
  unfold bypassS
  split
  · exact Nat.zero_le _
  · rename_i i _
    cases b == 0 || b != c.Key <;> try exact Nat.zero_le _
    cases (c.Contacts.getD i z_Contact).Critical <;> try exact Nat.zero_le _
    cases (fst (fun k => k != i && (c.Contacts.getD k z_Contact).Until != 0) c.Contacts.length).isSome <;> try exact Nat.zero_le _
    cases decide (u < 1) || decide (u > 20000000) <;> try exact Nat.zero_le _
    simpa [at1] using h

theorem t_ChainContacts : AllW (fun y => y = some true) [TI.t_Chain, TI.t_i64, TI.t_i64] (l16_ChainContacts 2000) := fun (c : Chain) _ (id : Int) _ (b : Int) _ => by
  show l16_ChainContacts 2000 c id b = some true
  unfold l16_ChainContacts
  rw [alive_ok, rright_eq (by omega)]
  by_cases h : rightS c = 0
  · have v := right_zero.1 h
    have hl : c.Contacts.length ≤ 1000 := by have := v.len; omega
    simp only [break_eq (N := 2000) (by omega) hl, rbreak_eq (N := 2000) (by omega) hl, make_eq (N := 2000) (by omega) hl, rmake_eq (N := 2000) (by omega) hl, clear_eq (N := 2000) (by omega) hl, rclear_eq (N := 2000) (by omega) hl,
      same_refl (N := 2000) (by omega) (breakS_len hl), same_refl (N := 2000) (by omega) (makeS_len hl), same_refl (N := 2000) (by omega) (clearS_len hl), Option.bind_some, h, beq_self_eq_true, cond_true]
    rfl
  · have hb : (rightS c != 0) = true := by simpa using h
    simp only [Option.bind_some, hb, cond_true, Bool.not_true, cond_false]
theorem t_ChainTakes : AllW (fun y => y = some true) [TI.t_Chain, TI.t_i64] (l16_ChainTakes 2000) := fun (c : Chain) _ (b : Int) _ => by
  show l16_ChainTakes 2000 c b = some true
  unfold l16_ChainTakes
  rw [alive_ok, rright_eq (by omega)]
  by_cases h : rightS c = 0
  · have v := right_zero.1 h
    have hl : c.Contacts.length ≤ 1000 := by have := v.len; omega
    simp only [take_eq (N := 2000) (by omega) hl, rtake_eq (N := 2000) (by omega) v, same_refl (N := 2000) (by omega) (takeS_len hl), Option.bind_some, h, beq_self_eq_true, cond_true]
    rfl
  · have hb : (rightS c != 0) = true := by simpa using h
    simp only [Option.bind_some, hb, cond_true, Bool.not_true, cond_false]
theorem t_ChainBypasses : AllW (fun y => y = some true) [TI.t_Chain, TI.t_i64, TI.t_i64, TI.t_i64] (l16_ChainBypasses 2000) := fun (c : Chain) _ (id : Int) _ (b : Int) _ (u : Int) _ => by
  show l16_ChainBypasses 2000 c id b u = some true
  unfold l16_ChainBypasses
  rw [alive_ok, rright_eq (by omega)]
  by_cases h : rightS c = 0
  · have v := right_zero.1 h
    have hl : c.Contacts.length ≤ 1000 := by have := v.len; omega
    simp only [bypass_eq (N := 2000) (by omega) hl, rbypass_eq (N := 2000) (by omega) v, same_refl (N := 2000) (by omega) (bypassS_len hl), Option.bind_some, h, beq_self_eq_true, cond_true]
    rfl
  · have hb : (rightS c != 0) = true := by simpa using h
    simp only [Option.bind_some, hb, cond_true, Bool.not_true, cond_false]
theorem faults_expire {c : Chain} (v : Val c) (t : Int) : faultsS (expS c t) t = faultsS c t := by
  unfold faultsS expS
  simp only [List.filter_map, List.map_map]
  have h1 : c.Contacts.filter (faultO t ∘ expO t) = c.Contacts.filter (faultO t) := by
    refine List.filter_congr fun o ho => ?_
    obtain ⟨i, hi, rfl⟩ := mem_getD z_Contact ho
    have hu := (v.unt i hi).1
    generalize c.Contacts.getD i z_Contact = o at hu
    simp only [Function.comp, faultO, expO]
    by_cases h : o.Until ≤ t
    · have : t ≥ 0 := by omega
      simp [h, untilO, this]
    · simp [h]
  rw [h1]
  refine List.map_congr_left fun o _ => ?_
  simp only [Function.comp, expO]
  cases decide (o.Until ≤ t) <;> rfl
theorem faultsS_len {c : Chain} {t : Int} (h : c.Contacts.length ≤ 1000) : (faultsS c t).length ≤ 1000 := by
  unfold faultsS
  have := List.length_filter_le (faultO t) c.Contacts
  simp only [List.length_map]
  omega
theorem t_ChainFaults : AllW (fun y => y = some true) [TI.t_Chain, TI.t_i64, TI.t_i64] (l16_ChainFaults 2000) := fun (c : Chain) _ (t : Int) _ (u : Int) _ => by
  show l16_ChainFaults 2000 c t u = some true
  unfold l16_ChainFaults
  rw [alive_ok, rright_eq (by omega)]
  by_cases h : rightS c = 0
  · have v := right_zero.1 h
    have hl : c.Contacts.length ≤ 1000 := by have := v.len; omega
    have hl2 : (expS c t).Contacts.length ≤ 1000 := by simpa [expS] using hl
    simp only [expire_eq (N := 2000) (by omega) hl, rexpire_eq (N := 2000) (by omega) hl, same_refl (N := 2000) (by omega) hl2, faults_eq (N := 2000) (by omega) hl, faults_eq (N := 2000) (by omega) hl2, rfaults_eq (N := 2000) (by omega) hl, faults_expire v,
      sameInts_refl (N := 2000) (by omega) _ (faultsS_len hl), Option.bind_some, h, cond_true]
    rfl
  · have hb : (rightS c != 0) = true := by simpa using h
    simp only [Option.bind_some, hb, cond_true, Bool.not_true, cond_false]
end Go.Proofs.Ytpjafflngappaaa
