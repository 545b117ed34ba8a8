/- Snowmaking: the functions of pumps and pipes return, whatever they are given (within bounds of length); Power and Why. No condition. -/
import Derived.Test.YtkhkblihdabnoaaSno1
import Derived.Test.YtkhkblihdabnoaaSno2
namespace Go.Proofs.Ytkhkblihdabnoaa
open Go.Cm Go.Proofs
theorem alive_ok : l44_alive 2000 = some true := by kernel_rfl
/-! a computation returns, and its result has a property -/
def W {α : Type} (Q : α → Prop) (x : Option α) : Prop := ∃ r, x = some r ∧ Q r
theorem W_some {α : Type} {Q : α → Prop} {r : α} (h : Q r) : W Q (some r) := ⟨r, rfl, h⟩
theorem W_bind {α β : Type} {Q' : α → Prop} {Q : β → Prop} {x : Option α} {f : α → Option β} (h : W Q' x) (hf : ∀ r, Q' r → W Q (f r)) : W Q (x.bind f) := by
  obtain ⟨r, rfl, hr⟩ := h
  exact hf r hr
theorem W_cond {α : Type} {Q : α → Prop} {b : Bool} {x y : Option α} (h1 : b = true → W Q x) (h2 : b = false → W Q y) : W Q (bif b then x else y) := by
  cases b
  · exact h2 rfl
  · exact h1 rfl
theorem W_elim {α β γ : Type} {Q : γ → Prop} {f : α → Option γ} {g : β → Option γ} {r : α ⊕ β} (h1 : ∀ p, W Q (f p)) (h2 : ∀ p, W Q (g p)) : W Q (Sum.elim f g r) := by
  cases r
  · exact h1 _
  · exact h2 _
theorem W_mono {α : Type} {Q Q' : α → Prop} {x : Option α} (h : W Q x) (hq : ∀ r, Q r → Q' r) : W Q' x := by
  obtain ⟨r, e, hr⟩ := h
  exact ⟨r, e, hq r hr⟩
theorem W_loop {σ ρ : Type} {body : σ → Option (σ ⊕ ρ)} {s0 : σ} {N : Nat} {Q : ρ → Prop} (I : Nat → σ → Prop) (n : Nat) (h0 : I 0 s0) (hs : ∀ i s, i < n → I i s → W (Sum.elim (I (i + 1)) Q) (body s)) (he : ∀ s, I n s → W (Sum.elim (fun _ => False) Q) (body s)) (hN : n < N) : W Q (whileF N body s0) :=
  whileF_inv I Q n h0 (fun i s hi hI => by
    obtain ⟨r, e, hr⟩ := hs i s hi hI
    cases r with
    | inl s' => exact .inl ⟨s', e, hr⟩
    | inr r => exact .inr ⟨r, e, hr⟩) (fun s hI => by
    obtain ⟨r, e, hr⟩ := he s hI
    cases r with
    | inl s' => exact hr.elim
    | inr r => exact ⟨r, e, hr⟩) hN
theorem idxOk {n : Nat} {z : Int} (h : z = (n : Int)) {m : Nat} (hm : n < m) : (decide (0 ≤ z) && decide (z < (m : Int))) = true := by subst h; simp [hm]
section
variable {N : Nat} (hN : 1000 < N)
include hN
/-! pumps -/
omit hN in
theorem shl_small {n : Nat} (h : n ≤ 8) : IntKind.i64.wrap (shlI IntKind.i64 1 (n : Int) - 1) = ((2 ^ n - 1 : Nat) : Int) := by
  match n, h with
  | 0, _ => decide
  | 1, _ => decide
  | 2, _ => decide
  | 3, _ => decide
  | 4, _ => decide
  | 5, _ => decide
  | 6, _ => decide
  | 7, _ => decide
  | 8, _ => decide
  | n + 9, h => omega
theorem members_tot {x : Nat} (hx : x < 256) : W (fun l => l.length ≤ 8) (pump_members N (x : Int)) := by
  unfold pump_members
  refine W_bind (Q' := fun l => l.length ≤ 8) ?_ fun r hr => W_some hr
  have hz : shrI IntKind.i64 (x : Int) ((8 : Nat) : Int) = 0 := by
    show (x : Int).fdiv (2 ^ (min ((8 : Nat) : Int).toNat 64)) = 0
    rw [Int.fdiv_eq_ediv_of_nonneg _ (by decide)]
    have h8 : (2 : Int) ^ 8 = 256 := by decide
    exact Int.ediv_eq_zero_of_lt (by omega) (by show (x : Int) < 2 ^ 8; omega)
  refine W_loop (fun i s => s.2 = (i : Int) ∧ s.1.length ≤ i) 8 ⟨rfl, Nat.le_refl _⟩ (fun i s hi hI => ?_) (fun s hI => ?_) (by omega)
  · obtain ⟨l, k⟩ := s
    obtain ⟨hk, hl⟩ := hI
    simp only at hk hl
    subst hk
    have hb : ∀ y : Int, decide ((l.length + [y].length) * 8 ≤ 140737488355328) = true := fun y => by simp only [List.length_singleton, decide_eq_true_eq]; omega
    simp only [dge, cond_true, Option.bind_some, hb, wrapC (show i < 9223372036854775807 by omega)]
    refine W_cond (fun _ => ?_) (fun _ => W_some (show l.length ≤ 8 by omega))
    refine W_bind (Q' := fun r : List Int => r.length ≤ i + 1) (W_cond (fun _ => W_some (by simp; omega)) (fun _ => W_some (by omega))) fun r hr => W_some ⟨rfl, hr⟩
  · obtain ⟨l, k⟩ := s
    obtain ⟨hk, hl⟩ := hI
    simp only at hk hl
    subst hk
    have : (shrI IntKind.i64 (x : Int) ((8 : Nat) : Int) != 0) = false := by rw [hz]; rfl
    simp only [dge, cond_true, this, cond_false]
    exact W_some hl
theorem contains_tot {l : List Int} (hl : l.length ≤ 900) (x : Int) : W (fun _ => True) (sl_Contains_int N l x) := by
  unfold sl_Contains_int sl_Index_int
  refine W_bind (Q' := fun _ => True) ?_ fun r _ => W_some trivial
  refine W_bind (Q' := fun _ => True) ?_ fun r _ => W_elim (fun _ => W_some trivial) (fun _ => W_some trivial)
  refine W_loop (fun i s => s = (i : Int)) l.length rfl (fun i s hi hI => ?_) (fun s hI => ?_) (by omega)
  · subst hI
    simp only [dlt hi, dge, Bool.and_self, cond_true, wrapC (show i < 9223372036854775807 by omega)]
    exact W_cond (fun _ => W_some trivial) (fun _ => W_some rfl)
  · subst hI
    simp only [dnlt, cond_false]
    exact W_some trivial
theorem flow_tot {l : List Pump} (hl : l.length ≤ 900) {c : List Int} (hc : c.length ≤ 900) : W (fun _ => True) (pump_Flow N l c) := by
  unfold pump_Flow
  refine W_bind (Q' := fun _ => True) ?_ fun r _ => W_some trivial
  refine W_loop (fun i s => s.2 = (i : Int)) l.length rfl (fun i s hi hI => ?_) (fun s hI => ?_) (by omega)
  · obtain ⟨a, k⟩ := s
    simp only at hI
    subst hI
    simp only [dlt hi, dge, Bool.and_self, cond_true, wrapC (show i < 9223372036854775807 by omega)]
    refine W_bind (contains_tot hN hc _) fun r _ => W_bind (Q' := fun _ => True) (W_cond (fun _ => W_some trivial) (fun _ => W_some trivial)) fun r _ => W_some rfl
  · obtain ⟨a, k⟩ := s
    simp only at hI
    subst hI
    simp only [dnlt, cond_false]
    exact W_some trivial
theorem ppower_tot {l : List Pump} (hl : l.length ≤ 900) {c : List Int} (hc : c.length ≤ 900) : W (fun _ => True) (pump_Power N l c) := by
  unfold pump_Power
  refine W_bind (Q' := fun _ => True) ?_ fun r _ => W_some trivial
  refine W_loop (fun i s => s.2 = (i : Int)) l.length rfl (fun i s hi hI => ?_) (fun s hI => ?_) (by omega)
  · obtain ⟨a, k⟩ := s
    simp only at hI
    subst hI
    simp only [dlt hi, dge, Bool.and_self, cond_true, wrapC (show i < 9223372036854775807 by omega)]
    refine W_bind (contains_tot hN hc _) fun r _ => W_bind (Q' := fun _ => True) (W_cond (fun _ => W_some trivial) (fun _ => W_some trivial)) fun r _ => W_some rfl
  · obtain ⟨a, k⟩ := s
    simp only at hI
    subst hI
    simp only [dnlt, cond_false]
    exact W_some trivial
omit hN in
theorem cmp_tot (a b : Int) : W (fun _ => True) (cmp_Compare_int_ N a b) := by
  unfold cmp_Compare_int_ cmp_isNaN_int_
  simp only [Option.bind_some]
  exact W_cond (fun _ => W_cond (fun _ => W_some trivial) (fun _ => W_some trivial)) (fun _ => W_cond (fun _ => W_some trivial) (fun _ => W_cond (fun _ => W_some trivial) (fun _ => W_cond (fun _ => W_some trivial) (fun _ => W_some trivial))))
theorem compare_tot {a b : List Int} (ha : a.length ≤ 900) : W (fun _ => True) (sl_Compare_int N a b) := by
  unfold sl_Compare_int
  refine W_bind (Q' := fun _ => True) ?_ fun r _ => W_elim (fun _ => W_cond (fun _ => W_some trivial) (fun _ => W_some trivial)) (fun _ => W_some trivial)
  refine W_loop (fun i s => s = (i : Int)) a.length rfl (fun i s hi hI => ?_) (fun s hI => ?_) (by omega)
  · subst hI
    simp only [dlt hi, dge, Bool.and_self, cond_true, Bool.true_and, wrapC (show i < 9223372036854775807 by omega)]
    refine W_cond (fun _ => W_some trivial) (fun h => ?_)
    have hb : decide ((i : Int) < (b.length : Int)) = true := by rw [decide_eq_false_iff_not] at h; rw [decide_eq_true_eq]; omega
    simp only [hb, cond_true]
    exact W_bind (cmp_tot _ _) fun r _ => W_cond (fun _ => W_some trivial) (fun _ => W_some rfl)
  · subst hI
    simp only [dnlt, cond_false]
    exact W_some trivial
theorem best_tot (l : List Pump) (x : Int) : W (fun _ => True) (pump_Best N l x) := by
  unfold pump_Best
  refine W_cond (fun _ => W_some trivial) (fun _ => W_cond (fun _ => W_some trivial) (fun h => ?_))
  have hl : l.length ≤ 8 := by rw [decide_eq_false_iff_not] at h; omega
  rw [shl_small hl]
  have hp : 2 ^ l.length ≤ 2 ^ 8 := Nat.pow_le_pow_right (by decide) hl
  have hp' : 2 ^ l.length - 1 < 256 := by have : 2 ^ 8 = 256 := by decide
                                          have : 0 < 2 ^ l.length := Nat.pow_pos (by decide)
                                          omega
  generalize 2 ^ l.length - 1 = a at hp'
  refine W_bind (members_tot hN hp') fun r2 h2 => W_bind (flow_tot hN (by omega) (by omega)) fun r3 _ => W_cond (fun _ => W_some trivial) (fun _ => W_bind (ppower_tot hN (by omega) (by omega)) fun r4 _ => ?_)
  refine W_bind (Q' := fun _ => True) ?_ fun r _ => W_some trivial
  refine W_loop (fun i s => s.2.2 = (i : Int) ∧ s.1.length ≤ 8) a ⟨rfl, h2⟩ (fun i s hi hI => ?_) (fun s hI => ?_) (by omega)
  · obtain ⟨c, lp, k⟩ := s
    obtain ⟨hk, hc⟩ := hI
    simp only at hk hc
    subst hk
    simp only [dlt hi, cond_true, wrapC (show i < 9223372036854775807 by omega)]
    refine W_bind (Q' := fun r : List Int × Int => r.1.length ≤ 8) ?_ fun r hr => W_some ⟨rfl, hr⟩
    refine W_bind (members_tot hN (show i < 256 by omega)) fun r6 h6 => W_bind (flow_tot hN (by omega) (by omega)) fun r7 _ => W_cond (fun _ => W_some hc) (fun _ => W_bind (ppower_tot hN (by omega) (by omega)) fun r8 _ => ?_)
    refine W_bind (Q' := fun _ => True) (W_cond (fun _ => W_some trivial) (fun _ => W_cond (fun _ => W_bind (compare_tot hN (by omega)) fun r _ => W_some trivial) (fun _ => W_some trivial))) fun r10 _ => ?_
    exact W_bind (Q' := fun r : List Int × Int => r.1.length ≤ 8) (W_cond (fun _ => W_some h6) (fun _ => W_some hc)) fun r hr => W_some hr
  · obtain ⟨c, lp, k⟩ := s
    obtain ⟨hk, hc⟩ := hI
    simp only at hk
    subst hk
    simp only [dnlt, cond_false]
    exact W_some trivial
/-! pipes -/
theorem find_tot {l : List Pipe} (hl : l.length ≤ 900) (x : Int) : W (fun r : Int => -1 ≤ r ∧ r < (l.length : Int)) (pipe_find N l x) := by
  unfold pipe_find
  refine W_bind (Q' := Sum.elim (fun _ => True) (fun r => 0 ≤ r ∧ r < (l.length : Int))) ?_ fun r hr => ?_
  · refine W_loop (fun i s => s = (i : Int)) l.length rfl (fun i s hi hI => ?_) (fun s hI => ?_) (by omega)
    · subst hI
      simp only [dlt hi, dge, Bool.and_self, cond_true, wrapC (show i < 9223372036854775807 by omega)]
      exact W_cond (fun _ => W_some (show (0 : Int) ≤ i ∧ (i : Int) < l.length by omega)) (fun _ => W_some rfl)
    · subst hI
      simp only [dnlt, cond_false]
      exact W_some trivial
  · cases r with
    | inl u => exact W_some ⟨by omega, by omega⟩
    | inr r => exact W_some ⟨by have := hr.1; omega, hr.2⟩
theorem flows_tot {l : List Pipe} (hl : l.length ≤ 900) {d : List Draw} (hd : d.length ≤ 900) : W (fun r => r.length = l.length) (pipe_Flows N l d) := by
  unfold pipe_Flows
  have c1 : decide ((l.length : Int) ≤ (l.length : Int)) = true := by simp
  have c2 : decide ((l.length : Int) * 8 ≤ 140737488355328) = true := by rw [decide_eq_true_eq]; omega
  simp only [c1, c2, Bool.and_self, cond_true, Option.bind_some, Int.toNat_natCast]
  have key : ∀ (r : Int) (p : List Int), p.length = l.length → r < (l.length : Int) → decide (r ≥ 0) = true → (decide (0 ≤ r) && decide (r < (p.length : Int))) = true := fun r p hp hr h => by
    rw [decide_eq_true_eq] at h
    simp only [Bool.and_eq_true, decide_eq_true_eq]
    omega
  refine W_bind (Q' := fun r : List Int => r.length = l.length) ?_ fun r6 h6 => W_bind (Q' := fun r : List Int => r.length = l.length) ?_ fun r h => W_some h
  · refine W_loop (fun i s => s.1 = (i : Int) ∧ s.2.length = l.length) d.length ⟨rfl, by simp⟩ (fun i s hi hI => ?_) (fun s hI => ?_) (by omega)
    · obtain ⟨k, p⟩ := s
      obtain ⟨hk, hp⟩ := hI
      simp only at hk hp
      subst hk
      simp only [dlt hi, dge, Bool.and_self, cond_true, wrapC (show i < 9223372036854775807 by omega)]
      refine W_bind (find_tot hN hl _) fun r4 h4 => W_cond (fun h => ?_) (fun _ => W_some ⟨rfl, hp⟩)
      simp only [key r4 p hp h4.2 h, cond_true]
      exact W_some ⟨rfl, by simp [hp]⟩
    · obtain ⟨k, p⟩ := s
      obtain ⟨hk, hp⟩ := hI
      simp only at hk hp
      subst hk
      simp only [dnlt, cond_false]
      exact W_some hp
  · have e0 : IntKind.i64.wrap ((l.length : Int) - 1) = (l.length : Int) - 1 := wrap64 (by omega) (by omega)
    rw [e0]
    refine W_loop (fun i s => s.1 = (l.length : Int) - 1 - i ∧ s.2.length = l.length) l.length ⟨by omega, h6⟩ (fun i s hi hI => ?_) (fun s hI => ?_) (by omega)
    · obtain ⟨k, p⟩ := s
      obtain ⟨hk, hp⟩ := hI
      simp only at hk hp
      obtain ⟨m, hm⟩ : ∃ m : Nat, k = (m : Int) := ⟨k.toNat, by omega⟩
      subst hm
      have hml : m < l.length := by omega
      have g1 : decide ((m : Int) ≥ 0) = true := by simp
      have e1 : IntKind.i64.wrap ((m : Int) - 1) = (m : Int) - 1 := wrap64 (by omega) (by omega)
      simp only [g1, dge, dlt hml, dlt (show m < p.length by omega), Bool.and_self, cond_true, e1]
      refine W_bind (find_tot hN hl _) fun r4 h4 => W_cond (fun h => ?_) (fun _ => W_some ⟨by simp only; omega, hp⟩)
      simp only [key r4 p hp h4.2 h, cond_true]
      exact W_some ⟨by simp only; omega, by simp [hp]⟩
    · obtain ⟨k, p⟩ := s
      obtain ⟨hk, hp⟩ := hI
      simp only at hk hp
      have g1 : decide (k ≥ 0) = false := by rw [decide_eq_false_iff_not]; omega
      simp only [g1, cond_false]
      exact W_some hp
theorem low_tot {l : List Pipe} (hl : l.length ≤ 900) {d : List Draw} (hd : d.length ≤ 900) (root : Int) {need : List Draw} (hn : need.length ≤ 900) : W (fun _ => True) (pipe_Low N l d root need) := by
  unfold pipe_Low
  have c1 : decide ((l.length : Int) ≤ (l.length : Int)) = true := by simp
  have c2 : decide ((l.length : Int) * 8 ≤ 140737488355328) = true := by rw [decide_eq_true_eq]; omega
  refine W_bind (flows_tot hN hl hd) fun r4 h4 => ?_
  simp only [c1, c2, Bool.and_self, cond_true, Option.bind_some, Int.toNat_natCast]
  have key : ∀ (r : Int) (p : List Int), p.length = l.length → r < (l.length : Int) → decide (r < 0) = false → (decide (0 ≤ r) && decide (r < (p.length : Int))) = true := fun r p hp hr h => by
    rw [decide_eq_false_iff_not] at h
    simp only [Bool.and_eq_true, decide_eq_true_eq]
    omega
  refine W_bind (Q' := fun r : List Int => r.length = l.length) ?_ fun r11 h11 => W_bind (Q' := fun _ => True) ?_ fun r _ => W_some trivial
  · refine W_loop (fun i s => s.1 = (i : Int) ∧ s.2.length = l.length) l.length ⟨rfl, by simp⟩ (fun i s hi hI => ?_) (fun s hI => ?_) (by omega)
    · obtain ⟨k, p⟩ := s
      obtain ⟨hk, hp⟩ := hI
      simp only at hk hp
      subst hk
      simp only [dlt hi, dge, dlt (show i < r4.length by omega), dlt (show i < p.length by omega), Bool.and_self, cond_true, wrapC (show i < 9223372036854775807 by omega), Option.bind_some]
      refine W_cond (fun _ => W_some ⟨rfl, by simp [hp]⟩) (fun _ => W_bind (find_tot hN hl _) fun r8 h8 => W_cond (fun _ => W_some ⟨rfl, by simp [hp]⟩) (fun h => ?_))
      simp only [key r8 p hp h8.2 h, cond_true]
      exact W_some ⟨rfl, by simp [hp]⟩
    · obtain ⟨k, p⟩ := s
      obtain ⟨hk, hp⟩ := hI
      simp only at hk hp
      subst hk
      simp only [dnlt, cond_false]
      exact W_some hp
  · refine W_loop (fun i s => s.2 = (i : Int) ∧ s.1.length ≤ i) need.length ⟨rfl, by simp⟩ (fun i s hi hI => ?_) (fun s hI => ?_) (by omega)
    · obtain ⟨p, k⟩ := s
      obtain ⟨hk, hp⟩ := hI
      simp only at hk hp
      subst hk
      have hb : ∀ y : Int, decide ((p.length + [y].length) * 8 ≤ 140737488355328) = true := fun y => by simp only [List.length_singleton, decide_eq_true_eq]; omega
      simp only [dlt hi, dge, Bool.and_self, cond_true, hb, wrapC (show i < 9223372036854775807 by omega), Option.bind_some]
      have step : ∀ (b : Bool) (y : Int), W (fun r : List Int => r.length ≤ i + 1) (bif b then some (p ++ [y]) else some p) := fun b y => W_cond (fun _ => W_some (by simp; omega)) (fun _ => W_some (by omega))
      refine W_cond (fun _ => W_bind (step _ _) fun r hr => W_some ⟨rfl, hr⟩) (fun _ => W_bind (find_tot hN hl _) fun r17 h17 => W_cond (fun _ => W_some ⟨rfl, by simp; omega⟩) (fun h => ?_))
      simp only [key r17 r11 h11 h17.2 h, cond_true]
      exact W_bind (step _ _) fun r hr => W_some ⟨rfl, hr⟩
    · obtain ⟨p, k⟩ := s
      obtain ⟨hk, hp⟩ := hI
      simp only at hk
      subst hk
      simp only [dnlt, cond_false]
      exact W_some trivial
/-! Power and Why -/
theorem gpower_tot {ks : List GunKind} (hk : ks.length ≤ 64) {l : List Gun} (hl : l.length ≤ 64) : W (fun _ => True) (gun_Power N ks l) := by
  unfold gun_Power
  refine W_bind (Q' := fun _ => True) ?_ fun r _ => W_some trivial
  refine W_loop (fun i s => s.2 = (i : Int)) l.length rfl (fun i s hi hI => ?_) (fun s hI => ?_) (by omega)
  · obtain ⟨a, k⟩ := s
    simp only at hI
    subst hI
    simp only [dlt hi, dge, Bool.and_self, cond_true, Gn.gkind_eq hN ks _ hk, Option.bind_some, wrapC (show i < 9223372036854775807 by omega)]
    exact W_bind (Q' := fun _ => True) (W_cond (fun _ => W_some trivial) (fun _ => W_some trivial)) fun r _ => W_some rfl
  · obtain ⟨a, k⟩ := s
    simp only at hI
    subst hI
    simp only [dnlt, cond_false]
    exact W_some trivial
structure Small (s : SnowSystem) : Prop where
  ponds : s.Ponds.length ≤ 30
  pumps : s.Pumps.length ≤ 30
  pipes : s.Pipes.length ≤ 30
  guns : s.Guns.length ≤ 30
  packs : s.Packs.length ≤ 30
  kinds : s.Kinds.length ≤ 30
  outs : ∀ i, i < s.Kinds.length → (s.Kinds.getD i z_GunKind).Output.length ≤ 70
theorem power_tot {s : SnowSystem} (h : Small s) (x : Int) : W (fun _ => True) (snowmaking_Power N s x) := by
  have h1 := h.guns
  have h2 := h.kinds
  unfold snowmaking_Power
  rw [Gn.draws_eq hN _ _ _ (by omega) (by omega), Option.bind_some]
  have hd := Gn.draws_len s.Kinds s.Guns x
  refine W_bind (Q' := fun _ => True) ?_ fun r4 _ => W_bind (best_tot hN _ _) fun r5 _ => W_cond (fun _ => W_some trivial) (fun _ => W_bind (gpower_tot hN (by omega) (by omega)) fun r6 _ => W_some trivial)
  refine W_loop (fun i s => s.2 = (i : Int)) (Gn.drawsS s.Kinds s.Guns x).length rfl (fun i s hi hI => ?_) (fun s hI => ?_) (by omega)
  · obtain ⟨a, k⟩ := s
    simp only at hI
    subst hI
    simp only [dlt hi, dge, Bool.and_self, cond_true, wrapC (show i < 9223372036854775807 by omega)]
    exact W_some rfl
  · obtain ⟨a, k⟩ := s
    simp only at hI
    subst hI
    simp only [dnlt, cond_false]
    exact W_some trivial
theorem why_tot {s : SnowSystem} (h : Small s) (x : Int) : W (fun _ => True) (snowmaking_Why N s x) := by
  have h1 := h.guns
  have h2 := h.kinds
  have h3 := h.pipes
  have hd := Gn.draws_len s.Kinds s.Guns x
  have hn := Gn.needs_len s.Kinds s.Guns
  unfold snowmaking_Why
  rw [Gn.draws_eq hN _ _ _ (by omega) (by omega), Gn.needs_eq hN _ _ (by omega) (by omega)]
  simp only [Option.bind_some]
  exact W_bind (power_tot hN h x) fun r2 _ => W_cond (fun _ => W_some trivial) (fun _ => W_cond (fun _ => W_some trivial) (fun _ => W_bind (low_tot hN (l := s.Pipes) (d := Gn.drawsS s.Kinds s.Guns x) (need := Gn.needsS s.Kinds s.Guns) (by omega) (by omega) _ (by omega)) fun r5 _ => W_cond (fun _ => W_some trivial) (fun _ => W_some trivial)))
/-- what Why = OK says -/
theorem why_ok {s : SnowSystem} (h : Small s) {x : Int} (hw : snowmaking_Why N s x = some 0) : ∃ p, snowmaking_Power N s x = some (p, 0) ∧ p ≤ s.Limit := by
  obtain ⟨⟨p, e⟩, hp, _⟩ := power_tot hN h x
  unfold snowmaking_Why at hw
  rw [hp, Option.bind_some] at hw
  cases he : (e != 0) with
  | true =>
    simp only [he, cond_true, Option.some.injEq] at hw
    rw [hw] at he
    cases he
  | false =>
    have he' : e = 0 := by simpa using he
    subst he'
    refine ⟨p, hp, ?_⟩
    by_cases hl : p > s.Limit
    · simp only [he, cond_false, hl, decide_true, cond_true, Option.some.injEq] at hw
      omega
    · omega
end
end Go.Proofs.Ytkhkblihdabnoaa
