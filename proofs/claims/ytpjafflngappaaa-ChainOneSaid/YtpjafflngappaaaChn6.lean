/- The chain: the laws of many operations in plain words. No condition. -/
import Derived.Test.YtpjafflngappaaaChn5
namespace Go.Proofs.Ytpjafflngappaaa
open Go.Cm Go.Proofs

theorem Val.l1000 {c : Chain} (v : Val c) : c.Contacts.length ≤ 1000 := by have := v.len; omega
theorem same_sk {N : Nat} (hN : 1000 < N) {a b : Chain} (hl : b.Contacts.length ≤ 1000) (h : Sk b a) : l16_same N a b = some true := by
  unfold l16_same
  have hlen := h.1
  have e : ((a.Contacts.length : Int) != (b.Contacts.length : Int)) = false := by rw [hlen]; simp
  rw [e, cond_false, through () a.Contacts.length (by omega) (fun i hi => ?_) (by simp)]
  · rfl
  · have h1 : decide ((i : Int) < (a.Contacts.length : Int)) = true := by simp [hi]
    have h2 : decide ((i : Int) < (b.Contacts.length : Int)) = true := by simp; omega
    have h3 : decide ((0 : Int) ≤ (i : Int)) = true := by simp
    obtain ⟨g1, g2⟩ := h.2 i (by omega)
    simp only [h1, h2, h3, Bool.and_self, cond_true, Int.toNat_natCast, g1, g2, bne_self_eq_false, cond_false, beq_self_eq_true, Bool.not_true, Option.bind_some, wrapN (show i < 9223372036854775807 by omega)]
theorem t_ChainStays : AllW (fun y => y = some true) [TI.t_Chain, TI.l_Op] (l16_ChainStays 2000) := fun (c : Chain) _ (l : List Op) _ => by
  show l16_ChainStays 2000 c l = some true
  unfold l16_ChainStays
  rw [alive_ok, right_eq (by omega)]
  by_cases h : rightS c = 0
  · have v := right_zero.1 h
    by_cases hl : (l.length : Int) > 30
    · simp [h, hl]
    · simp only [h, hl, Option.bind_some, bne_self_eq_false, decide_false, Bool.not_true, cond_false]
      refine bind_inv (fun k s => s.1 = (k : Int) ∧ Val s.2 ∧ Sk c s.2) (fun r => ∃ d, r = .inl d) l.length ⟨rfl, v, Sk.refl c⟩ (fun k s hk hI => ?_) (fun s hI => ?_) (by omega) (fun r hr => ?_)
      · obtain ⟨i, d⟩ := s
        obtain ⟨rfl, vd, hs⟩ := hI
        have h1 : decide ((k : Int) < (l.length : Int)) = true := by simp [hk]
        have h3 : decide ((0 : Int) ≤ (k : Int)) = true := by simp
        obtain ⟨v', hs'⟩ := doS_val vd (l.getD k z_Op)
        have hs2 := hs.trans hs'
        left
        refine ⟨((k : Int) + 1, (doS d (l.getD k z_Op)).1), ?_, by simp, v', hs2⟩
        simp only [h1, h3, Bool.and_self, cond_true, Int.toNat_natCast, do_eq (N := 2000) (by omega) vd.l1000, Option.bind_some, right_eq (N := 2000) (by omega), right_zero.2 v', same_sk (N := 2000) (by omega) v.l1000 hs2,
          bne_self_eq_false, cond_false, Bool.not_true, wrapN (show k < 9223372036854775807 by omega)]
      · obtain ⟨i, d⟩ := s
        obtain ⟨rfl, _⟩ := hI
        exact ⟨.inl d, by simp, d, rfl⟩
      · obtain ⟨d, rfl⟩ := hr
        rfl
  · have hb : (rightS c != 0) = true := by simpa using h
    simp only [Option.bind_some, hb, cond_true, Bool.not_true, cond_false]

theorem t_ChainOne : AllW (fun y => y = some true) [TI.t_Chain, TI.l_Op] (l16_ChainOne 2000) := fun (c : Chain) _ (l : List Op) _ => by
  show l16_ChainOne 2000 c l = some true
  unfold l16_ChainOne
  rw [alive_ok, right_eq (by omega)]
  by_cases h : rightS c = 0
  · have v := right_zero.1 h
    by_cases hl : (l.length : Int) > 30
    · simp [h, hl]
    · simp only [h, hl, Option.bind_some, bne_self_eq_false, decide_false, Bool.not_true, cond_false]
      refine bind_inv (fun k s => s.1 = (k : Int) ∧ Val s.2) (fun r => ∃ d, r = .inl d) l.length ⟨rfl, v⟩ (fun k s hk hI => ?_) (fun s hI => ?_) (by omega) (fun r hr => ?_)
      · obtain ⟨i, d⟩ := s
        obtain ⟨rfl, vd⟩ := hI
        have h1 : decide ((k : Int) < (l.length : Int)) = true := by simp [hk]
        have h3 : decide ((0 : Int) ≤ (k : Int)) = true := by simp
        obtain ⟨v', hs'⟩ := doS_val vd (l.getD k z_Op)
        left
        refine ⟨((k : Int) + 1, (doS d (l.getD k z_Op)).1), ?_, by simp, v'⟩
        simp only [h1, h3, Bool.and_self, cond_true, Int.toNat_natCast, do_eq (N := 2000) (by omega) vd.l1000, Option.bind_some, wrapN (show k < 9223372036854775807 by omega)]
        generalize (doS d (l.getD k z_Op)).1 = e at v'
        refine bind_inv (fun j s => s.2 = (j : Int) ∧ ((s.1 = 0 ∧ ∀ q, q < j → (e.Contacts.getD q z_Contact).Until = 0) ∨ (s.1 = 1 ∧ ∃ q, q < j ∧ (e.Contacts.getD q z_Contact).Until ≠ 0)))
          (fun r => ∃ z : Int, r = .inl z ∧ (z = 0 ∨ (z = 1 ∧ e.Key ≠ 0))) e.Contacts.length ⟨rfl, .inl ⟨rfl, fun q hq => by omega⟩⟩ (fun j s hj hI => ?_) (fun s hI => ?_) (by have := v'.l1000; omega) (fun r hr => ?_)
        · obtain ⟨z, i⟩ := s
          obtain ⟨rfl, hz⟩ := hI
          have g1 : decide ((j : Int) < (e.Contacts.length : Int)) = true := by simp [hj]
          have g3 : decide ((0 : Int) ≤ (j : Int)) = true := by simp
          have hw := wrapN (i := j) (by have := v'.l1000; omega)
          left
          simp only [g1, g3, Bool.and_self, cond_true, Int.toNat_natCast, hw]
          by_cases hu : (e.Contacts.getD j z_Contact).Until = 0
          · refine ⟨(z, (j : Int) + 1), by simp only [hu, bne_self_eq_false, cond_false, Option.bind_some, Sum.elim_inl], by simp, ?_⟩
            rcases hz with ⟨hz, hq⟩ | ⟨hz, q, hq1, hq2⟩
            · exact .inl ⟨hz, fun q hq' => by rcases Nat.lt_succ_iff_lt_or_eq.1 hq' with h | rfl; exact hq q h; exact hu⟩
            · exact .inr ⟨hz, q, by omega, hq2⟩
          · obtain ⟨hkey, hb⟩ := v'.byp j hj hu
            have hcr : (e.Contacts.getD j z_Contact).Critical = false := by
              cases hc : (e.Contacts.getD j z_Contact).Critical
              · rfl
              · exact absurd (v'.crit j hj hc) hu
            have hub : ((e.Contacts.getD j z_Contact).Until != 0) = true := by simpa using hu
            have hz0 : z = 0 := by
              rcases hz with ⟨hz, hq⟩ | ⟨hz, q, hq1, hq2⟩
              · exact hz
              · exact absurd (hb q hq1) hq2
            subst hz0
            refine ⟨(1, (j : Int) + 1), ?_, by simp, .inr ⟨rfl, j, by omega, hu⟩⟩
            have hw1 : IntKind.i64.wrap ((0 : Int) + 1) = 1 := by decide
            simp only [hub, hcr, cond_true, cond_false, Option.bind_some, Sum.elim_inl, hw1]
        · obtain ⟨z, i⟩ := s
          obtain ⟨rfl, hz⟩ := hI
          refine ⟨.inl z, by simp, z, rfl, ?_⟩
          rcases hz with ⟨hz, hq⟩ | ⟨hz, q, hq1, hq2⟩
          · exact .inl hz
          · exact .inr ⟨hz, (v'.byp q hq1 hq2).1⟩
        · obtain ⟨z, rfl, hz⟩ := hr
          rcases hz with rfl | ⟨rfl, hk⟩
          · rfl
          · have hkb : (e.Key == 0) = false := by simpa using hk
            simp [hkb]
      · obtain ⟨i, d⟩ := s
        obtain ⟨rfl, _⟩ := hI
        exact ⟨.inl d, by simp, d, rfl⟩
      · obtain ⟨d, rfl⟩ := hr
        rfl
  · have hb : (rightS c != 0) = true := by simpa using h
    simp only [Option.bind_some, hb, cond_true, Bool.not_true, cond_false]
end Go.Proofs.Ytpjafflngappaaa
