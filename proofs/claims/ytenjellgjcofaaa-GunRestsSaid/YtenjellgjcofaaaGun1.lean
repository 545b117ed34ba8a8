/- The guns: what their functions compute, in plain words. No condition. -/
import Derived.Test.YtenjellgjcofaaaFn4
import Derived.Test.YtenjellgjcofaaaCmq
namespace Go.Proofs.Ytenjellgjcofaaa
open Go.Cm Go.Proofs

theorem alive_ok : l42_alive 2000 = some true := by kernel_rfl

/-! points -/
def badPt (l : List Point) (i : Nat) : Bool :=
  (decide ((l.getD i z_Point).X < -1000000000) || (decide ((l.getD i z_Point).X > 1000000000) || (decide ((l.getD i z_Point).Y < -1000000000) || decide ((l.getD i z_Point).Y > 1000000000)))) ||
    (decide (0 < i) && decide ((l.getD i z_Point).X ≤ (l.getD (i - 1) z_Point).X))
def ptsS (l : List Point) : Bool := !(decide ((l.length : Int) < 1) || decide ((l.length : Int) > 64)) && (fst (badPt l) l.length).isNone
def badY (l : List Point) (i : Nat) : Bool :=
  decide ((l.getD i z_Point).Y < 0) || (decide ((l.getD i z_Point).Y > 10000) || (decide (0 < i) && decide ((l.getD i z_Point).Y > (l.getD (i - 1) z_Point).Y)))
def fallS (l : List Point) : Bool := ptsS l && (fst (badY l) l.length).isNone
/-- the index of the piece -/
def seg (l : List Point) (x : Int) : Nat := (fst (fun i => !decide ((l.getD (i + 1) z_Point).X ≤ x)) (l.length - 1)).getD 0
def floS (a b : Int) : Int := bif decide (a.tmod b < 0) then IntKind.i64.wrap (IntKind.i64.wrap (a.tdiv b) - 1) else IntKind.i64.wrap (a.tdiv b)
def pieceS (p q : Point) (x : Int) : Int :=
  IntKind.i64.wrap (p.Y + floS (IntKind.i64.wrap (IntKind.i64.wrap (q.Y - p.Y) * IntKind.i64.wrap (x - p.X))) (IntKind.i64.wrap (q.X - p.X)))
def atV (l : List Point) (x : Int) : Int :=
  bif decide (x ≤ (l.getD 0 z_Point).X) then (l.getD 0 z_Point).Y
  else bif decide (x ≥ (l.getD (l.length - 1) z_Point).X) then (l.getD (l.length - 1) z_Point).Y
  else pieceS (l.getD (seg l x) z_Point) (l.getD (seg l x + 1) z_Point) x
def atS (l : List Point) (x : Int) : Int × Int := bif ptsS l then (atV l x, 0) else (0, 1)

section
variable {N : Nat} (hN : 1000 < N)
include hN
theorem fright_eq (l : List Point) : fixed_right N l = some (ptsS l) := by
  unfold fixed_right ptsS
  rw [cond_or, Option.bind_some]
  cases hq : (decide ((l.length : Int) < 1) || decide ((l.length : Int) > 64)) with
  | true => rfl
  | false =>
    have hl : l.length ≤ 64 := by simp at hq; omega
    rw [cond_false, search (badPt l) (fun _ => false) () l.length (by omega) (fun i hi => ?_) (by simp)]
    · cases fst _ _ <;> rfl
    · simp only [dlt hi, dge, Bool.and_self, cond_true, Int.toNat_natCast, cond_or, Option.bind_some, wrapN (show i < 9223372036854775807 by omega)]
      unfold badPt
      cases i with
      | zero =>
        have h1 : decide (((0 : Nat) : Int) > 0) = false := by simp
        simp only [h1, cond_false, Nat.lt_irrefl, decide_false, Bool.false_and, Bool.or_false, Option.bind_some]
      | succ k =>
        have h1 : decide (((k + 1 : Nat) : Int) > 0) = true := by simp
        simp only [h1, cond_true, wrapS (show k < 9223372036854775807 by omega), dge, dlt (show k < l.length by omega), Bool.and_self, Int.toNat_natCast, Option.bind_some, Nat.add_sub_cancel, Nat.zero_lt_succ, decide_true, Bool.true_and, cond_or2]
omit hN in
theorem within_eq (x : Int) : r01_Within N x 1000000000 = some (!(decide (x < -1000000000) || decide (x > 1000000000))) := by
  unfold r01_Within
  have h : IntKind.i64.wrap (0 - 1000000000) = -1000000000 := by decide
  rw [h, cond_and, Option.bind_some]
  by_cases h1 : x < -1000000000 <;> by_cases h2 : x > 1000000000 <;> simp [h1, h2] <;> omega
theorem rpoints_eq (l : List Point) : r01_Points N l = some (ptsS l) := by
  unfold r01_Points ptsS
  rw [cond_or, Option.bind_some]
  cases hq : (decide ((l.length : Int) < 1) || decide ((l.length : Int) > 64)) with
  | true => rfl
  | false =>
    have hl : l.length ≤ 64 := by simp at hq; omega
    rw [cond_false, search (badPt l) (fun _ => false) () l.length (by omega) (fun i hi => ?_) (by simp)]
    · cases fst _ _ <;> rfl
    · simp only [dlt hi, dge, Bool.and_self, cond_true, Int.toNat_natCast, within_eq, Option.bind_some, wrapN (show i < 9223372036854775807 by omega), Bool.not_not]
      unfold badPt
      cases i with
      | zero =>
        have h1 : decide (((0 : Nat) : Int) > 0) = false := by simp
        simp only [h1, cond_false, Nat.lt_irrefl, decide_false, Bool.false_and, Bool.or_false, cond_or, Option.bind_some, Bool.or_assoc]
      | succ k =>
        have h1 : decide (((k + 1 : Nat) : Int) > 0) = true := by simp
        simp only [h1, cond_true, wrapS (show k < 9223372036854775807 by omega), dge, dlt (show k < l.length by omega), Bool.and_self, Int.toNat_natCast, Nat.add_sub_cancel, Nat.zero_lt_succ, decide_true, Bool.true_and, cond_or, Option.bind_some, Bool.or_assoc]
omit hN in
theorem floor_eq (a b : Int) (hb : 0 < b) : fixed_floorDiv N a b = some (floS a b) := by
  unfold fixed_floorDiv floS
  have : (b != 0) = true := by simp; omega
  simp only [this, cond_true, cond_some, Option.bind_some]
omit hN in
theorem rfloor_eq (a b : Int) (hb : 0 < b) : r01_Floor N a b = some (floS a b) := by
  unfold r01_Floor floS
  have : (b != 0) = true := by simp; omega
  simp only [this, cond_true, cond_some]
omit hN in
theorem pts_spec {l : List Point} (h : ptsS l = true) : 1 ≤ l.length ∧ l.length ≤ 64 ∧ ∀ i, i < l.length → -1000000000 ≤ (l.getD i z_Point).X ∧ (l.getD i z_Point).X ≤ 1000000000 ∧ -1000000000 ≤ (l.getD i z_Point).Y ∧ (l.getD i z_Point).Y ≤ 1000000000 ∧
    (0 < i → (l.getD (i - 1) z_Point).X < (l.getD i z_Point).X) := by
  simp only [ptsS, Bool.and_eq_true, Bool.not_eq_true', Bool.or_eq_false_iff, decide_eq_false_iff_not, Option.isNone_iff_eq_none, fst_none] at h
  obtain ⟨⟨h1, h2⟩, h3⟩ := h
  refine ⟨by omega, by omega, fun i hi => ?_⟩
  have := h3 i hi
  simp only [badPt, Bool.or_eq_false_iff, Bool.and_eq_false_iff, decide_eq_false_iff_not] at this
  obtain ⟨⟨a, b, c, d⟩, e⟩ := this
  refine ⟨by omega, by omega, by omega, by omega, fun h0 => ?_⟩
  rcases e with e | e <;> omega
omit hN in
theorem seg_spec {l : List Point} (h : ptsS l = true) {x : Int} (h0 : ¬ x ≤ (l.getD 0 z_Point).X) (h1 : ¬ x ≥ (l.getD (l.length - 1) z_Point).X) :
    seg l x + 1 < l.length ∧ (∀ j, j < seg l x → (l.getD (j + 1) z_Point).X ≤ x) ∧ x < (l.getD (seg l x + 1) z_Point).X ∧ (l.getD (seg l x) z_Point).X ≤ x := by
  obtain ⟨l1, l2, _⟩ := pts_spec h
  unfold seg
  cases hf : fst (fun i => !decide ((l.getD (i + 1) z_Point).X ≤ x)) (l.length - 1) with
  | none =>
    exfalso
    rw [fst_none] at hf
    by_cases hl : l.length = 1
    · rw [hl, Nat.sub_self] at h1
      exact h1 (by omega)
    · have := hf (l.length - 2) (by omega)
      simp only [Bool.not_eq_false', decide_eq_true_eq] at this
      rw [show l.length - 2 + 1 = l.length - 1 by omega] at this
      omega
  | some i =>
    rw [fst_some] at hf
    obtain ⟨a, b, c⟩ := hf
    simp only [Bool.not_eq_true', decide_eq_false_iff_not, Bool.not_eq_false', decide_eq_true_eq] at b c
    refine ⟨by simp; omega, c, by simpa using b, ?_⟩
    simp only [Option.getD_some]
    cases i with
    | zero => omega
    | succ k => exact c k (by omega)
theorem fat_eq (l : List Point) (x : Int) : fixed_At N l x = some (atS l x) := by
  unfold fixed_At atS
  rw [fright_eq hN, Option.bind_some]
  cases hp : ptsS l with
  | false => rfl
  | true =>
    obtain ⟨l1, l2, hb⟩ := pts_spec hp
    have e1 : IntKind.i64.wrap ((l.length : Int) - 1) = ((l.length - 1 : Nat) : Int) := by rw [wrap64 (by omega) (by omega)]; omega
    have e2 : decide ((0 : Int) < (l.length : Int)) = true := by simp; omega
    simp only [Bool.not_true, cond_false, Bool.true_and, e1, e2, cond_true, dge, dlt (show l.length - 1 < l.length by omega), Bool.and_self, Int.toNat_natCast]
    unfold atV
    by_cases h0 : x ≤ (l.getD 0 z_Point).X
    · simp only [h0, decide_true, cond_true]
    · by_cases h1 : x ≥ (l.getD (l.length - 1) z_Point).X
      · simp only [h0, h1, decide_true, decide_false, cond_true, cond_false]
      · obtain ⟨s1, s2, s3, s4⟩ := seg_spec hp h0 h1
        simp only [h0, h1, decide_false, cond_false]
        have hs := hb (seg l x + 1) s1
        have hx := hb (seg l x) (by omega)
        have e3 : IntKind.i64.wrap ((l.getD (seg l x + 1) z_Point).X - (l.getD (seg l x) z_Point).X) = (l.getD (seg l x + 1) z_Point).X - (l.getD (seg l x) z_Point).X := wrap64 (by omega) (by omega)
        refine (bindT (fun i => (i : Int)) rfl ((seg l x : Nat) : Int) (seg l x) (by omega) (fun i hi => ?_) ?_).trans ?_
        · simp only [wrapC (show i < 9223372036854775807 by omega), dge, dlt (show i + 1 < l.length by omega), Bool.and_self, cond_true, Int.toNat_natCast, s2 i hi, decide_true]
        · have : ¬ (l.getD (seg l x + 1) z_Point).X ≤ x := by omega
          simp only [wrapC (show seg l x < 9223372036854775807 by omega), dge, dlt s1, Bool.and_self, cond_true, Int.toNat_natCast, this, decide_false, cond_false]
        · simp only [Option.bind_some, dge, dlt (show seg l x < l.length by omega), Bool.and_self, cond_true, wrapC (show seg l x < 9223372036854775807 by omega), dlt s1, Int.toNat_natCast]
          rw [floor_eq _ _ (by rw [e3]; omega)]
          rfl
theorem rat_eq (l : List Point) (x : Int) : r01_At N l x = some (atS l x) := by
  unfold r01_At atS
  rw [rpoints_eq hN, Option.bind_some]
  cases hp : ptsS l with
  | false => rfl
  | true =>
    obtain ⟨l1, l2, hb⟩ := pts_spec hp
    have e1 : IntKind.i64.wrap ((l.length : Int) - 1) = ((l.length - 1 : Nat) : Int) := by rw [wrap64 (by omega) (by omega)]; omega
    have e2 : decide ((0 : Int) < (l.length : Int)) = true := by simp; omega
    simp only [Bool.not_true, cond_false, Bool.true_and, e1, e2, cond_true, dge, dlt (show l.length - 1 < l.length by omega), Bool.and_self, Int.toNat_natCast]
    unfold atV
    by_cases h0 : x ≤ (l.getD 0 z_Point).X
    · simp only [h0, decide_true, cond_true]
    · by_cases h1 : x ≥ (l.getD (l.length - 1) z_Point).X
      · simp only [h0, h1, decide_true, decide_false, cond_true, cond_false]
      · obtain ⟨s1, s2, s3, s4⟩ := seg_spec hp h0 h1
        simp only [h0, h1, decide_false, cond_false]
        have hs := hb (seg l x + 1) s1
        have hx := hb (seg l x) (by omega)
        have e3 : IntKind.i64.wrap ((l.getD (seg l x + 1) z_Point).X - (l.getD (seg l x) z_Point).X) = (l.getD (seg l x + 1) z_Point).X - (l.getD (seg l x) z_Point).X := wrap64 (by omega) (by omega)
        refine (bindT (fun i => (i : Int)) rfl ((seg l x : Nat) : Int) (seg l x) (by omega) (fun i hi => ?_) ?_).trans ?_
        · simp only [wrapC (show i < 9223372036854775807 by omega), dge, dlt (show i + 1 < l.length by omega), Bool.and_self, cond_true, Int.toNat_natCast, s2 i hi, decide_true]
        · have : ¬ (l.getD (seg l x + 1) z_Point).X ≤ x := by omega
          simp only [wrapC (show seg l x < 9223372036854775807 by omega), dge, dlt s1, Bool.and_self, cond_true, Int.toNat_natCast, this, decide_false, cond_false]
        · simp only [Option.bind_some, dge, dlt (show seg l x < l.length by omega), Bool.and_self, cond_true, wrapC (show seg l x < 9223372036854775807 by omega), dlt s1, Int.toNat_natCast]
          rw [rfloor_eq _ _ (by rw [e3]; omega)]
          rfl
omit hN in
theorem at_ok (l : List Point) (x : Int) : ((atS l x).2 != 0) = !ptsS l := by unfold atS; cases ptsS l <;> rfl
theorem falling_eq (l : List Point) : gun_falling N l = some (fallS l) := by
  unfold gun_falling fallS
  rw [fat_eq hN, Option.bind_some, at_ok]
  cases hp : ptsS l with
  | false => rfl
  | true =>
    obtain ⟨l1, l2, hb⟩ := pts_spec hp
    rw [Bool.not_true, cond_false, search (badY l) (fun _ => false) () l.length (by omega) (fun i hi => ?_) (by simp)]
    · cases fst _ _ <;> rfl
    · simp only [dlt hi, dge, Bool.and_self, cond_true, Int.toNat_natCast, wrapN (show i < 9223372036854775807 by omega)]
      unfold badY
      cases i with
      | zero =>
        have h1 : decide (((0 : Nat) : Int) > 0) = false := by simp
        simp only [h1, cond_false, Nat.lt_irrefl, decide_false, Bool.false_and, Bool.or_false, cond_or, Option.bind_some]
      | succ k =>
        have h1 : decide (((k + 1 : Nat) : Int) > 0) = true := by simp
        simp only [h1, cond_true, wrapS (show k < 9223372036854775807 by omega), dge, dlt (show k < l.length by omega), Bool.and_self, Int.toNat_natCast, Nat.add_sub_cancel, Nat.zero_lt_succ, decide_true, Bool.true_and, cond_or, Option.bind_some]
/-! kinds -/
end
def rangeK (k : GunKind) : Bool := decide (k.ID < 1) || (decide (k.ID > 9999) || (decide (k.Power < 0) || (decide (k.Power > 1000000) || (decide (k.Pressure < 0) || decide (k.Pressure > 1000000)))))
def seenK (l : List GunKind) (i : Nat) (u : Int) : Bool := (fst (fun j => (l.getD j z_GunKind).ID == u) i).isSome
def errK (l : List GunKind) (i : Nat) : Int :=
  bif rangeK (l.getD i z_GunKind) then 2 else bif seenK l i (l.getD i z_GunKind).ID then 7 else bif !fallS (l.getD i z_GunKind).Output then 1 else 0
def inRangeS (g : Gun) : Bool :=
  !(decide (g.ID < 1) || decide (g.ID > 9999)) && (!(decide (g.Node < 1) || decide (g.Node > 9999)) && (!(decide (g.Run < 1) || decide (g.Run > 9999)) && (!(decide (g.On < 0) || decide (g.On > 86400)) && (!(decide (g.Off < 0) || decide (g.Off > 86400)) &&
    (decide (g.State ≥ 0) && (decide (g.State ≤ 2) && (decide (g.Since ≥ 0) && decide (g.Since ≤ 20000000))))))))
def seenG (l : List Gun) (i : Nat) (u : Int) : Bool := (fst (fun j => (l.getD j z_Gun).ID == u) i).isSome
def errG (ks : List GunKind) (l : List Gun) (i : Nat) : Int :=
  bif !inRangeS (l.getD i z_Gun) then 2 else bif seenG l i (l.getD i z_Gun).ID then 7 else bif !seenK ks ks.length (l.getD i z_Gun).Kind then 8 else 0
def rightS (ks : List GunKind) (l : List Gun) : Int :=
  bif decide ((ks.length : Int) > 64) || decide ((l.length : Int) > 64) then 4
  else match fst (fun i => errK ks i != 0) ks.length with
    | some i => errK ks i
    | none => match fst (fun i => errG ks l i != 0) l.length with
      | some i => errG ks l i
      | none => 0
def kindOf (ks : List GunKind) (id : Int) : GunKind := match fst (fun j => (ks.getD j z_GunKind).ID == id) ks.length with
  | some i => ks.getD i z_GunKind
  | none => z_GunKind
end Go.Proofs.Ytenjellgjcofaaa
