/- Own texts in one module: Sno1 Sno2 Sno3 Sno4 Sno5 Sno6 Sno7 Sno9. No condition. -/
import Derived.Test.YtkhkblihdabnoaaGreatFn10
import Derived.Test.YtkhkblihdabnoaaGreatCmq
import Derived.Test.YtkhkblihdabnoaaGreatCmp
/- Snowmaking: what the functions of the guns compute, in plain words (taken out of the texts on guns). No condition. -/
namespace Go.Proofs.YtkhkblihdabnoaaGreat.Gn
open Go.Cm Go.Proofs
set_option linter.unusedSectionVars false
def badPt (l : List Point) (i : Nat) : Bool :=
  (decide ((l.getD i z_Point).X < -1000000000) || (decide ((l.getD i z_Point).X > 1000000000) || (decide ((l.getD i z_Point).Y < -1000000000) || decide ((l.getD i z_Point).Y > 1000000000)))) ||
    (decide (0 < i) && decide ((l.getD i z_Point).X ≤ (l.getD (i - 1) z_Point).X))
def ptsS (l : List Point) : Bool := !(decide ((l.length : Int) < 1) || decide ((l.length : Int) > 64)) && (fst (badPt l) l.length).isNone
def badY (l : List Point) (i : Nat) : Bool :=
  decide ((l.getD i z_Point).Y < 0) || (decide ((l.getD i z_Point).Y > 10000) || (decide (0 < i) && decide ((l.getD i z_Point).Y > (l.getD (i - 1) z_Point).Y)))
def fallS (l : List Point) : Bool := ptsS l && (fst (badY l) l.length).isNone
def seg (l : List Point) (x : Int) : Nat := (fst (fun i => !decide ((l.getD (i + 1) z_Point).X ≤ x)) (l.length - 1)).getD 0
def floS (a b : Int) : Int := bif decide (a.tmod b < 0) then IntKind.i64.wrap (IntKind.i64.wrap (a.tdiv b) - 1) else IntKind.i64.wrap (a.tdiv b)
def pieceS (p q : Point) (x : Int) : Int :=
  IntKind.i64.wrap (p.Y + floS (IntKind.i64.wrap (IntKind.i64.wrap (q.Y - p.Y) * IntKind.i64.wrap (x - p.X))) (IntKind.i64.wrap (q.X - p.X)))
def atV (l : List Point) (x : Int) : Int :=
  bif decide (x ≤ (l.getD 0 z_Point).X) then (l.getD 0 z_Point).Y
  else bif decide (x ≥ (l.getD (l.length - 1) z_Point).X) then (l.getD (l.length - 1) z_Point).Y
  else pieceS (l.getD (seg l x) z_Point) (l.getD (seg l x + 1) z_Point) x
def atS (l : List Point) (x : Int) : Int × Int := bif ptsS l then (atV l x, 0) else (0, 1)
def rangeK (k : GunKind) : Bool := decide (k.ID < 1) || (decide (k.ID > 9999) || (decide (k.Power < 0) || (decide (k.Power > 1000000) || (decide (k.Pressure < 0) || decide (k.Pressure > 1000000)))))
def seenK (l : List GunKind) (i : Nat) (u : Int) : Bool := (fst (fun j => (l.getD j z_GunKind).ID == u) i).isSome
def errK (l : List GunKind) (i : Nat) : Int :=
  bif rangeK (l.getD i z_GunKind) then 2 else bif seenK l i (l.getD i z_GunKind).ID then 7 else bif !fallS (l.getD i z_GunKind).Output then 1 else 0
def inRangeS (g : Gun) : Bool :=
  !(decide (g.ID < 1) || decide (g.ID > 9999)) && (!(decide (g.Node < 1) || decide (g.Node > 9999)) && (!(decide (g.Run < 1) || decide (g.Run > 9999)) && (!(decide (g.On < 0) || decide (g.On > 86400)) && (!(decide (g.Off < 0) || decide (g.Off > 86400)) &&
    (decide (g.State ≥ 0) && (decide (g.State ≤ 2) && (decide (g.Since ≥ 0) && decide (g.Since ≤ 20000000))))))))
def seenG (l : List Gun) (i : Nat) (u : Int) : Bool := (fst (fun j => (l.getD j z_Gun).ID == u) i).isSome
def errG (ks : List GunKind) (l : List Gun) (i : Nat) : Int :=
  bif !inRangeS (l.getD i z_Gun) then 2 else bif seenG l i (l.getD i z_Gun).ID then 7 else bif !seenK ks ks.length (l.getD i z_Gun).Kind then 8 else 0
def rightS (ks : List GunKind) (l : List Gun) : Int :=
  bif decide ((ks.length : Int) > 64) || decide ((l.length : Int) > 64) then 4
  else match fst (fun i => errK ks i != 0) ks.length with
    | some i => errK ks i
    | none => match fst (fun i => errG ks l i != 0) l.length with
      | some i => errG ks l i
      | none => 0
def kindOf (ks : List GunKind) (id : Int) : GunKind := match fst (fun j => (ks.getD j z_GunKind).ID == id) ks.length with
  | some i => ks.getD i z_GunKind
  | none => z_GunKind
def seenFK (ks : List GunKind) (i : Nat) : Int → Option Bool := fun u => bif seenK ks i u then some true else none
def seenFG (l : List Gun) (i : Nat) : Int → Option Bool := fun u => bif seenG l i u then some true else none
theorem seenFK_get (ks : List GunKind) (i : Nat) (u : Int) : (seenFK ks i u).getD false = seenK ks i u := by unfold seenFK; cases seenK ks i u <;> rfl
theorem seenFG_get (l : List Gun) (i : Nat) (u : Int) : (seenFG l i u).getD false = seenG l i u := by unfold seenFG; cases seenG l i u <;> rfl
theorem seenFK_step (ks : List GunKind) (i : Nat) : (fun u : Int => bif u == (ks.getD i z_GunKind).ID then some true else seenFK ks i u) = seenFK ks (i + 1) := by
  funext u
  have h : seenK ks (i + 1) u = (seenK ks i u || ((ks.getD i z_GunKind).ID == u)) := fst_succ _ _
  have h2 : (u == (ks.getD i z_GunKind).ID) = ((ks.getD i z_GunKind).ID == u) := BEq.comm
  unfold seenFK
  rw [h, h2]
  cases seenK ks i u <;> cases (ks.getD i z_GunKind).ID == u <;> rfl
theorem seenFG_step (l : List Gun) (i : Nat) : (fun u : Int => bif u == (l.getD i z_Gun).ID then some true else seenFG l i u) = seenFG l (i + 1) := by
  funext u
  have h : seenG l (i + 1) u = (seenG l i u || ((l.getD i z_Gun).ID == u)) := fst_succ _ _
  have h2 : (u == (l.getD i z_Gun).ID) = ((l.getD i z_Gun).ID == u) := BEq.comm
  unfold seenFG
  rw [h, h2]
  cases seenG l i u <;> cases (l.getD i z_Gun).ID == u <;> rfl
def becS (g : Gun) (st t least : Int) : Gun × Int :=
  bif decide (t < g.Since) || decide (t > 20000000) then (z_Gun, 11)
  else bif decide (t < IntKind.i64.wrap (g.Since + least)) then (z_Gun, 13)
  else (Gun.mk g.ID g.Node g.Run g.Kind st t g.On g.Off, 0)
def startS (g : Gun) (t : Int) : Gun × Int := bif g.State != 0 then (z_Gun, 10) else becS g 1 t g.Off
def stopS (g : Gun) (t : Int) : Gun × Int := bif g.State != 1 then (z_Gun, 10) else becS g 0 t g.On
def outS (k : GunKind) (x : Int) : Int := (atS k.Output x).1
def onB (g : Gun) : Bool := g.State == 1
def drawsS (ks : List GunKind) (l : List Gun) (x : Int) : List Draw := (l.filter onB).map fun g => Draw.mk g.Node (outS (kindOf ks g.Kind) x)
def needsS (ks : List GunKind) (l : List Gun) : List Draw := (l.filter onB).map fun g => Draw.mk g.Node (kindOf ks g.Kind).Pressure
def powI (ks : List GunKind) (l : List Gun) : Int := ((l.filter onB).map fun g => (kindOf ks g.Kind).Power).sum
theorem filt_step (l : List Gun) (i : Nat) (hi : i < l.length) : (l.take (i + 1)).filter onB = (l.take i).filter onB ++ bif onB (l.getD i z_Gun) then [l.getD i z_Gun] else [] := by
  rw [take_getD l i z_Gun hi, List.filter_append]
  generalize l.getD i z_Gun = g
  cases h : onB g <;> simp [h]
theorem filt_len (l : List Gun) (i : Nat) : ((l.take i).filter onB).length ≤ i := Nat.le_trans (List.length_filter_le _ _) (by simp; omega)
theorem draws_len (ks : List GunKind) (l : List Gun) (x : Int) : (drawsS ks l x).length ≤ l.length := by unfold drawsS; rw [List.length_map]; exact List.length_filter_le _ _
theorem needs_len (ks : List GunKind) (l : List Gun) : (needsS ks l).length ≤ l.length := by unfold needsS; rw [List.length_map]; exact List.length_filter_le _ _
section
variable {N : Nat}
theorem floor_eq (a b : Int) (hb : 0 < b) : fixed_floorDiv N a b = some (floS a b) := by
  unfold fixed_floorDiv floS
  have : (b != 0) = true := by simp; omega
  simp only [this, cond_true, cond_some, Option.bind_some]
theorem pts_spec {l : List Point} (h : ptsS l = true) : 1 ≤ l.length ∧ l.length ≤ 64 ∧ ∀ i, i < l.length → -1000000000 ≤ (l.getD i z_Point).X ∧ (l.getD i z_Point).X ≤ 1000000000 ∧ -1000000000 ≤ (l.getD i z_Point).Y ∧ (l.getD i z_Point).Y ≤ 1000000000 ∧
    (0 < i → (l.getD (i - 1) z_Point).X < (l.getD i z_Point).X) := by
  simp only [ptsS, Bool.and_eq_true, Bool.not_eq_true', Bool.or_eq_false_iff, decide_eq_false_iff_not, Option.isNone_iff_eq_none, fst_none] at h
  obtain ⟨⟨h1, h2⟩, h3⟩ := h
  refine ⟨by omega, by omega, fun i hi => ?_⟩
  have := h3 i hi
  simp only [badPt, Bool.or_eq_false_iff, Bool.and_eq_false_iff, decide_eq_false_iff_not] at this
  obtain ⟨⟨a, b, c, d⟩, e⟩ := this
  refine ⟨by omega, by omega, by omega, by omega, fun h0 => ?_⟩
  rcases e with e | e <;> omega
theorem seg_spec {l : List Point} (h : ptsS l = true) {x : Int} (h0 : ¬ x ≤ (l.getD 0 z_Point).X) (h1 : ¬ x ≥ (l.getD (l.length - 1) z_Point).X) :
    seg l x + 1 < l.length ∧ (∀ j, j < seg l x → (l.getD (j + 1) z_Point).X ≤ x) ∧ x < (l.getD (seg l x + 1) z_Point).X ∧ (l.getD (seg l x) z_Point).X ≤ x := by
  obtain ⟨l1, l2, _⟩ := pts_spec h
  unfold seg
  cases hf : fst (fun i => !decide ((l.getD (i + 1) z_Point).X ≤ x)) (l.length - 1) with
  | none =>
    exfalso
    rw [fst_none] at hf
    by_cases hl : l.length = 1
    · rw [hl, Nat.sub_self] at h1
      exact h1 (by omega)
    · have := hf (l.length - 2) (by omega)
      simp only [Bool.not_eq_false', decide_eq_true_eq] at this
      rw [show l.length - 2 + 1 = l.length - 1 by omega] at this
      omega
  | some i =>
    rw [fst_some] at hf
    obtain ⟨a, b, c⟩ := hf
    simp only [Bool.not_eq_true', decide_eq_false_iff_not, Bool.not_eq_false', decide_eq_true_eq] at b c
    refine ⟨by simp; omega, c, by simpa using b, ?_⟩
    simp only [Option.getD_some]
    cases i with
    | zero => omega
    | succ k => exact c k (by omega)
theorem at_ok (l : List Point) (x : Int) : ((atS l x).2 != 0) = !ptsS l := by unfold atS; cases ptsS l <;> rfl
theorem order_eq (g : Gun) (t : Int) : gun_moment_order N (moment.mk t) g = some (!(decide (t < g.Since) || decide (t > 20000000))) := by
  unfold gun_moment_order
  rw [cond_and, Option.bind_some]
  by_cases h1 : t < g.Since <;> by_cases h2 : t > 20000000 <;> simp [h1, h2] <;> omega
theorem start_eq (g : Gun) (t : Int) : gun_Start N g t = some (startS g t) := by
  unfold gun_Start startS becS
  rw [order_eq, Option.bind_some]
  cases g.State != 0 <;> cases (decide (t < g.Since) || decide (t > 20000000)) <;> cases decide (t < IntKind.i64.wrap (g.Since + g.Off)) <;> rfl
theorem stop_eq (g : Gun) (t : Int) : gun_Stop N g t = some (stopS g t) := by
  unfold gun_Stop stopS becS
  rw [order_eq, Option.bind_some]
  cases g.State != 1 <;> cases (decide (t < g.Since) || decide (t > 20000000)) <;> cases decide (t < IntKind.i64.wrap (g.Since + g.On)) <;> rfl
end
section
variable {N : Nat} (hN : 1000 < N)
include hN
theorem fright_eq (l : List Point) : fixed_right N l = some (ptsS l) := by
  unfold fixed_right ptsS
  rw [cond_or, Option.bind_some]
  cases hq : (decide ((l.length : Int) < 1) || decide ((l.length : Int) > 64)) with
  | true => rfl
  | false =>
    have hl : l.length ≤ 64 := by simp at hq; omega
    rw [cond_false, search (badPt l) (fun _ => false) () l.length (by omega) (fun i hi => ?_) (by simp)]
    · cases fst _ _ <;> rfl
    · simp only [dlt hi, dge, Bool.and_self, cond_true, Int.toNat_natCast, cond_or, Option.bind_some, wrapN (show i < 9223372036854775807 by omega)]
      unfold badPt
      cases i with
      | zero =>
        have h1 : decide (((0 : Nat) : Int) > 0) = false := by simp
        simp only [h1, cond_false, Nat.lt_irrefl, decide_false, Bool.false_and, Bool.or_false, Option.bind_some]
      | succ k =>
        have h1 : decide (((k + 1 : Nat) : Int) > 0) = true := by simp
        simp only [h1, cond_true, wrapS (show k < 9223372036854775807 by omega), dge, dlt (show k < l.length by omega), Bool.and_self, Int.toNat_natCast, Option.bind_some, Nat.add_sub_cancel, Nat.zero_lt_succ, decide_true, Bool.true_and, cond_or2]
theorem fat_eq (l : List Point) (x : Int) : fixed_At N l x = some (atS l x) := by
  unfold fixed_At atS
  rw [fright_eq hN, Option.bind_some]
  cases hp : ptsS l with
  | false => rfl
  | true =>
    obtain ⟨l1, l2, hb⟩ := pts_spec hp
    have e1 : IntKind.i64.wrap ((l.length : Int) - 1) = ((l.length - 1 : Nat) : Int) := by rw [wrap64 (by omega) (by omega)]; omega
    have e2 : decide ((0 : Int) < (l.length : Int)) = true := by simp; omega
    simp only [Bool.not_true, cond_false, Bool.true_and, e1, e2, cond_true, dge, dlt (show l.length - 1 < l.length by omega), Bool.and_self, Int.toNat_natCast]
    unfold atV
    by_cases h0 : x ≤ (l.getD 0 z_Point).X
    · simp only [h0, decide_true, cond_true]
    · by_cases h1 : x ≥ (l.getD (l.length - 1) z_Point).X
      · simp only [h0, h1, decide_true, decide_false, cond_true, cond_false]
      · obtain ⟨s1, s2, s3, s4⟩ := seg_spec hp h0 h1
        simp only [h0, h1, decide_false, cond_false]
        have hs := hb (seg l x + 1) s1
        have hx := hb (seg l x) (by omega)
        have e3 : IntKind.i64.wrap ((l.getD (seg l x + 1) z_Point).X - (l.getD (seg l x) z_Point).X) = (l.getD (seg l x + 1) z_Point).X - (l.getD (seg l x) z_Point).X := wrap64 (by omega) (by omega)
        refine (bindT (fun i => (i : Int)) rfl ((seg l x : Nat) : Int) (seg l x) (by omega) (fun i hi => ?_) ?_).trans ?_
        · simp only [wrapC (show i < 9223372036854775807 by omega), dge, dlt (show i + 1 < l.length by omega), Bool.and_self, cond_true, Int.toNat_natCast, s2 i hi, decide_true]
        · have : ¬ (l.getD (seg l x + 1) z_Point).X ≤ x := by omega
          simp only [wrapC (show seg l x < 9223372036854775807 by omega), dge, dlt s1, Bool.and_self, cond_true, Int.toNat_natCast, this, decide_false, cond_false]
        · simp only [Option.bind_some, dge, dlt (show seg l x < l.length by omega), Bool.and_self, cond_true, wrapC (show seg l x < 9223372036854775807 by omega), dlt s1, Int.toNat_natCast]
          rw [floor_eq _ _ (by rw [e3]; omega)]
          rfl
theorem falling_eq (l : List Point) : gun_falling N l = some (fallS l) := by
  unfold gun_falling fallS
  rw [fat_eq hN, Option.bind_some, at_ok]
  cases hp : ptsS l with
  | false => rfl
  | true =>
    obtain ⟨l1, l2, hb⟩ := pts_spec hp
    rw [Bool.not_true, cond_false, search (badY l) (fun _ => false) () l.length (by omega) (fun i hi => ?_) (by simp)]
    · cases fst _ _ <;> rfl
    · simp only [dlt hi, dge, Bool.and_self, cond_true, Int.toNat_natCast, wrapN (show i < 9223372036854775807 by omega)]
      unfold badY
      cases i with
      | zero =>
        have h1 : decide (((0 : Nat) : Int) > 0) = false := by simp
        simp only [h1, cond_false, Nat.lt_irrefl, decide_false, Bool.false_and, Bool.or_false, cond_or, Option.bind_some]
      | succ k =>
        have h1 : decide (((k + 1 : Nat) : Int) > 0) = true := by simp
        simp only [h1, cond_true, wrapS (show k < 9223372036854775807 by omega), dge, dlt (show k < l.length by omega), Bool.and_self, Int.toNat_natCast, Nat.add_sub_cancel, Nat.zero_lt_succ, decide_true, Bool.true_and, cond_or, Option.bind_some]
theorem inRange_eq (g : Gun) : gun_inRange N g = some (inRangeS g) := by
  unfold gun_inRange
  have hs : inRangeS g = ((fst (fun i => decide ([g.ID, g.Node, g.Run].getD i 0 < 1) || decide ([g.ID, g.Node, g.Run].getD i 0 > 9999)) 3).isNone && ((fst (fun i => decide ([g.On, g.Off].getD i 0 < 0) || decide ([g.On, g.Off].getD i 0 > 86400)) 2).isNone &&
      (decide (g.State ≥ 0) && (decide (g.State ≤ 2) && (decide (g.Since ≥ 0) && decide (g.Since ≤ 20000000)))))) := by
    rw [fst_three, fst_two]
    simp only [inRangeS, Bool.and_assoc]
    rfl
  rw [hs, search (fun i => decide ([g.ID, g.Node, g.Run].getD i 0 < 1) || decide ([g.ID, g.Node, g.Run].getD i 0 > 9999)) (fun _ => false) () 3 (by omega) (fun i hi => ?_) (by simp)]
  · cases fst (fun i => decide ([g.ID, g.Node, g.Run].getD i 0 < 1) || decide ([g.ID, g.Node, g.Run].getD i 0 > 9999)) 3 with
    | some i => rfl
    | none =>
      simp only [Option.bind_some, sres, Sum.elim_inl, Option.isNone_none, Bool.true_and]
      rw [search (fun i => decide ([g.On, g.Off].getD i 0 < 0) || decide ([g.On, g.Off].getD i 0 > 86400)) (fun _ => false) () 2 (by omega) (fun i hi => ?_) (by simp)]
      · cases fst (fun i => decide ([g.On, g.Off].getD i 0 < 0) || decide ([g.On, g.Off].getD i 0 > 86400)) 2 with
        | some i => rfl
        | none => simp only [Option.bind_some, sres, Sum.elim_inl, Option.isNone_none, Bool.true_and, cond_and]
      · have h1 : decide ((i : Int) < 2) = true := by rw [decide_eq_true_eq]; omega
        simp only [h1, dge, Bool.and_self, cond_true, Int.toNat_natCast, cond_or, Option.bind_some, wrapN (show i < 9223372036854775807 by omega)]
  · have h1 : decide ((i : Int) < 3) = true := by rw [decide_eq_true_eq]; omega
    simp only [h1, dge, Bool.and_self, cond_true, Int.toNat_natCast, cond_or, Option.bind_some, wrapN (show i < 9223372036854775807 by omega)]
theorem gright_eq (ks : List GunKind) (l : List Gun) : gun_Right N ks l = some (rightS ks l) := by
  unfold gun_Right rightS
  rw [cond_or, Option.bind_some]
  cases hq : (decide ((ks.length : Int) > 64) || decide ((l.length : Int) > 64)) with
  | true => rfl
  | false =>
    have hl : ks.length ≤ 64 ∧ l.length ≤ 64 := by simp at hq; omega
    rw [cond_false]
    refine (bindS (fun i => ((i : Int), seenFK ks i)) rfl (fun i => errK ks i != 0) (fun i => (errK ks i, bif errK ks i == 1 then seenFK ks (i + 1) else seenFK ks i)) (seenFK ks ks.length) ks.length (show ks.length < N by omega) (fun i hi _ => ?_) (fun _ => ?_)).trans ?_
    · simp only [dlt hi, dge, Bool.and_self, cond_true, Int.toNat_natCast, cond_or, Option.bind_some, seenFK_get, falling_eq hN, wrapC (show i < 9223372036854775807 by omega), seenFK_step]
      have hr : (decide ((ks.getD i z_GunKind).ID < 1) || (decide ((ks.getD i z_GunKind).ID > 9999) || (decide ((ks.getD i z_GunKind).Power < 0) || (decide ((ks.getD i z_GunKind).Power > 1000000) || (decide ((ks.getD i z_GunKind).Pressure < 0) || decide ((ks.getD i z_GunKind).Pressure > 1000000)))))) = rangeK (ks.getD i z_GunKind) := rfl
      rw [hr]
      unfold errK
      cases rangeK (ks.getD i z_GunKind) <;> cases seenK ks i (ks.getD i z_GunKind).ID <;> cases fallS (ks.getD i z_GunKind).Output <;> rfl
    · simp only [dnlt, cond_false]
    · cases hf : fst (fun i => errK ks i != 0) ks.length with
      | some i => rfl
      | none =>
        simp only [sres, Sum.elim_inl, cond_false]
        refine (bindS (fun i => ((i : Int), seenFG l i)) rfl (fun i => errG ks l i != 0) (fun i => (errG ks l i, bif errG ks l i == 8 then seenFG l (i + 1) else seenFG l i)) (seenFG l l.length) l.length (show l.length < N by omega) (fun i hi _ => ?_) (fun _ => ?_)).trans ?_
        · simp only [dlt hi, dge, Bool.and_self, cond_true, Int.toNat_natCast, Option.bind_some, seenFK_get, seenFG_get, inRange_eq hN, wrapC (show i < 9223372036854775807 by omega), seenFG_step]
          unfold errG
          cases inRangeS (l.getD i z_Gun) <;> cases seenG l i (l.getD i z_Gun).ID <;> cases seenK ks ks.length (l.getD i z_Gun).Kind <;> rfl
        · simp only [dnlt, cond_false]
        · cases fst (fun i => errG ks l i != 0) l.length <;> rfl
theorem gkind_eq (ks : List GunKind) (id : Int) (hl : ks.length ≤ 64) : gun_kind N ks id = some (kindOf ks id) := by
  unfold gun_kind kindOf
  refine (bindS (fun i => ((i : Int), z_GunKind)) rfl (fun i => (ks.getD i z_GunKind).ID == id) (fun i => ks.getD i z_GunKind) z_GunKind ks.length (show ks.length < N by omega) (fun i hi _ => ?_) (fun _ => ?_)).trans ?_
  · simp only [dlt hi, dge, Bool.and_self, cond_true, Int.toNat_natCast, wrapC (show i < 9223372036854775807 by omega)]
  · simp only [dnlt, cond_false]
  · cases fst _ _ <;> rfl
theorem gout_eq (k : GunKind) (x : Int) : gun_Output N k x = some (outS k x) := by
  unfold gun_Output outS
  rw [fat_eq hN]; rfl
theorem draws_eq (ks : List GunKind) (l : List Gun) (x : Int) (hk : ks.length ≤ 64) (hl : l.length ≤ 64) : gun_Draws N ks l x = some (drawsS ks l x) := by
  unfold gun_Draws
  refine (bindT (fun i => (drawsS ks (l.take i) x, (i : Int))) rfl (drawsS ks l x) l.length (show l.length < N by omega) (fun i hi => ?_) ?_).trans rfl
  · have hlen := filt_len l i
    simp only [dlt hi, dge, Bool.and_self, cond_true, Int.toNat_natCast, gkind_eq hN ks _ hk, gout_eq hN, Option.bind_some, wrapC (show i < 9223372036854775807 by omega)]
    have hb : decide (((drawsS ks (l.take i) x).length + [Draw.mk (l.getD i z_Gun).Node (outS (kindOf ks (l.getD i z_Gun).Kind) x)].length) * 16 ≤ 140737488355328) = true := by
      simp only [drawsS, List.length_map, List.length_singleton, decide_eq_true_eq]; omega
    rw [hb]
    have hd : drawsS ks (l.take (i + 1)) x = drawsS ks (l.take i) x ++ bif onB (l.getD i z_Gun) then [Draw.mk (l.getD i z_Gun).Node (outS (kindOf ks (l.getD i z_Gun).Kind) x)] else [] := by
      unfold drawsS
      rw [filt_step l i hi, List.map_append]
      cases onB (l.getD i z_Gun) <;> rfl
    rw [hd]
    have ho : ((l.getD i z_Gun).State == 1) = onB (l.getD i z_Gun) := rfl
    rw [ho]
    cases onB (l.getD i z_Gun)
    · simp
    · rfl
  · simp only [dnlt, cond_false, List.take_length]
theorem needs_eq (ks : List GunKind) (l : List Gun) (hk : ks.length ≤ 64) (hl : l.length ≤ 64) : gun_Needs N ks l = some (needsS ks l) := by
  unfold gun_Needs
  refine (bindT (fun i => (needsS ks (l.take i), (i : Int))) rfl (needsS ks l) l.length (show l.length < N by omega) (fun i hi => ?_) ?_).trans rfl
  · have hlen := filt_len l i
    simp only [dlt hi, dge, Bool.and_self, cond_true, Int.toNat_natCast, gkind_eq hN ks _ hk, Option.bind_some, wrapC (show i < 9223372036854775807 by omega)]
    have hb : decide (((needsS ks (l.take i)).length + [Draw.mk (l.getD i z_Gun).Node (kindOf ks (l.getD i z_Gun).Kind).Pressure].length) * 16 ≤ 140737488355328) = true := by
      simp only [needsS, List.length_map, List.length_singleton, decide_eq_true_eq]; omega
    rw [hb]
    have hd : needsS ks (l.take (i + 1)) = needsS ks (l.take i) ++ bif onB (l.getD i z_Gun) then [Draw.mk (l.getD i z_Gun).Node (kindOf ks (l.getD i z_Gun).Kind).Pressure] else [] := by
      unfold needsS
      rw [filt_step l i hi, List.map_append]
      cases onB (l.getD i z_Gun) <;> rfl
    rw [hd]
    have ho : ((l.getD i z_Gun).State == 1) = onB (l.getD i z_Gun) := rfl
    rw [ho]
    cases onB (l.getD i z_Gun)
    · simp
    · rfl
  · simp only [dnlt, cond_false, List.take_length]
end
theorem right_zero {ks : List GunKind} {l : List Gun} (h : rightS ks l = 0) : ks.length ≤ 64 ∧ l.length ≤ 64 ∧ (∀ i, i < ks.length → errK ks i = 0) ∧ ∀ i, i < l.length → errG ks l i = 0 := by
  unfold rightS at h
  cases hq : (decide ((ks.length : Int) > 64) || decide ((l.length : Int) > 64)) with
  | true => rw [hq] at h; cases h
  | false =>
    rw [hq, cond_false] at h
    have hl : ks.length ≤ 64 ∧ l.length ≤ 64 := by simp at hq; omega
    split at h
    · rename_i i hf
      have := (fst_some.1 hf).2.1
      simp [h] at this
    · rename_i hf
      split at h
      · rename_i i hg
        have := (fst_some.1 hg).2.1
        simp [h] at this
      · rename_i hg
        refine ⟨hl.1, hl.2, fun i hi => ?_, fun i hi => ?_⟩
        · simpa using fst_none.1 hf i hi
        · simpa using fst_none.1 hg i hi
end Go.Proofs.YtkhkblihdabnoaaGreat.Gn

/- Snowmaking: what the functions of the ponds compute, in plain words (taken out of the texts on ponds). No condition. -/
namespace Go.Proofs.YtkhkblihdabnoaaGreat.Pn
open Go.Cm Go.Proofs
set_option linter.unusedSectionVars false
def rangeP (p : Pond) : Bool :=
  (decide (p.ID < 1) || (decide (p.ID > 9999) || (decide (p.Inflow < 0) || decide (p.Inflow > 10000000)))) || (decide (p.Least < 0) || (decide (p.Volume < p.Least) || (decide (p.Most < p.Volume) || decide (p.Most > 1000000000))))
def seenP (l : List Pond) (i : Nat) (u : Int) : Bool := (fst (fun j => (l.getD j z_Pond).ID == u) i).isSome
def errP (l : List Pond) (i : Nat) : Int := bif rangeP (l.getD i z_Pond) then 2 else bif seenP l i (l.getD i z_Pond).ID then 7 else 0
def rightS (l : List Pond) : Int := bif decide ((l.length : Int) > 8) then 4 else match fst (fun i => errP l i != 0) l.length with
  | some i => errP l i
  | none => 0
def seenF (l : List Pond) (i : Nat) : Int → Option Bool := fun u => bif seenP l i u then some true else none
theorem seenF_get (l : List Pond) (i : Nat) (u : Int) : (seenF l i u).getD false = seenP l i u := by unfold seenF; cases seenP l i u <;> rfl
theorem seenF_step (l : List Pond) (i : Nat) : (fun u : Int => bif u == (l.getD i z_Pond).ID then some true else seenF l i u) = seenF l (i + 1) := by
  funext u
  have h : seenP l (i + 1) u = (seenP l i u || ((l.getD i z_Pond).ID == u)) := fst_succ _ _
  have h2 : (u == (l.getD i z_Pond).ID) = ((l.getD i z_Pond).ID == u) := BEq.comm
  unfold seenF
  rw [h, h2]
  cases seenP l i u <;> cases (l.getD i z_Pond).ID == u <;> rfl
def fillW (p : Pond) (x : Int) : Int := min (IntKind.i64.wrap ((IntKind.i64.wrap (p.Inflow * x)).tdiv 3600)) (IntKind.i64.wrap (p.Most - p.Volume))
def fillP (x : Int) (p : Pond) : Pond := Pond.mk p.ID (IntKind.i64.wrap (p.Volume + fillW p x)) p.Least p.Most p.Inflow
def sumW (l : List Pond) (x : Int) : Int := l.foldl (fun a p => IntKind.i64.wrap (a + fillW p x)) 0
theorem sumW_step (l : List Pond) (x : Int) (i : Nat) (hi : i < l.length) : sumW (l.take (i + 1)) x = IntKind.i64.wrap (sumW (l.take i) x + fillW (l.getD i z_Pond) x) := by
  unfold sumW
  rw [take_getD l i z_Pond hi, List.foldl_append]
  rfl
def fillS (l : List Pond) (x : Int) : List Pond × Int × Int := bif decide (x < 0) || decide (x > 86400) then ([], 0, 2) else (l.map (fillP x), sumW l x, 0)
section
variable {N : Nat}
theorem clone_eq (l : List Pond) (hl : l.length ≤ 900) : sl_Clone_Pond N l = some l := by
  unfold sl_Clone_Pond
  have : (0 + l.length) * 40 ≤ 140737488355328 := by omega
  simp only [this, decide_true, cond_true]
end
section
variable {N : Nat} (hN : 1000 < N)
include hN
theorem pright_eq (l : List Pond) : pond_Right N l = some (rightS l) := by
  unfold pond_Right rightS
  cases hq : decide ((l.length : Int) > 8) with
  | true => rfl
  | false =>
    have hl : l.length ≤ 8 := by simp at hq; omega
    rw [cond_false]
    refine (bindS (fun i => ((i : Int), seenF l i)) rfl (fun i => errP l i != 0) (fun i => (errP l i, seenF l i)) (seenF l l.length) l.length (show l.length < N by omega) (fun i hi _ => ?_) (fun _ => ?_)).trans ?_
    · simp only [dlt hi, dge, Bool.and_self, cond_true, Int.toNat_natCast, cond_or, Option.bind_some, seenF_get, wrapC (show i < 9223372036854775807 by omega), seenF_step, cond_or2]
      have hr : ((decide ((l.getD i z_Pond).ID < 1) || (decide ((l.getD i z_Pond).ID > 9999) || (decide ((l.getD i z_Pond).Inflow < 0) || decide ((l.getD i z_Pond).Inflow > 10000000)))) ||
        (decide ((l.getD i z_Pond).Least < 0) || (decide ((l.getD i z_Pond).Volume < (l.getD i z_Pond).Least) || (decide ((l.getD i z_Pond).Most < (l.getD i z_Pond).Volume) || decide ((l.getD i z_Pond).Most > 1000000000))))) = rangeP (l.getD i z_Pond) := rfl
      rw [hr]
      unfold errP
      cases rangeP (l.getD i z_Pond) <;> cases seenP l i (l.getD i z_Pond).ID <;> rfl
    · simp only [dnlt, cond_false]
    · cases fst (fun i => errP l i != 0) l.length <;> rfl
theorem fill_eq (l : List Pond) (x : Int) (hl : l.length ≤ 8) : pond_Fill N l x = some (fillS l x) := by
  unfold pond_Fill fillS
  rw [cond_or, Option.bind_some]
  cases hq : (decide (x < 0) || decide (x > 86400)) with
  | true => rfl
  | false =>
    rw [cond_false, clone_eq l (by omega), Option.bind_some]
    have hm : (l.map (fillP x)).length = l.length := by simp
    refine (bindT (fun i => (sumW (l.take i) x, (i : Int), mixd (l.map (fillP x)) l i)) (by simp [mixd_zero, sumW]) (sumW l x, l.map (fillP x)) l.length (show l.length < N by omega) (fun i hi => ?_) ?_).trans rfl
    · simp only [dlt hi, dge, Bool.and_self, cond_true, Int.toNat_natCast, mixd_len hm, mixd_getD hm hi, Option.bind_some, wrapC (show i < 9223372036854775807 by omega)]
      rw [sumW_step l x i hi, ← mixd_set hm hi (fillP x (l.getD i z_Pond)) z_Pond (getD_map _ _ _ _ _ hi).symm]
      rfl
    · have := mixd_all hm
      simp only [dnlt, cond_false, List.take_length, this]
end
def PondOk (p : Pond) : Prop := 1 ≤ p.ID ∧ p.ID ≤ 9999 ∧ 0 ≤ p.Inflow ∧ p.Inflow ≤ 10000000 ∧ 0 ≤ p.Least ∧ p.Least ≤ p.Volume ∧ p.Volume ≤ p.Most ∧ p.Most ≤ 1000000000
theorem range_iff (p : Pond) : rangeP p = false ↔ PondOk p := by
  unfold rangeP PondOk
  simp only [Bool.or_eq_false_iff, decide_eq_false_iff_not]
  omega
theorem right_iff (l : List Pond) : rightS l = 0 ↔ l.length ≤ 8 ∧ ∀ i, i < l.length → PondOk (l.getD i z_Pond) ∧ seenP l i (l.getD i z_Pond).ID = false := by
  unfold rightS
  cases hq : decide ((l.length : Int) > 8) with
  | true =>
    have : ¬ l.length ≤ 8 := by simp at hq; omega
    simp [this]
  | false =>
    have hl : l.length ≤ 8 := by simp at hq; omega
    have he : ∀ i, errP l i = 0 ↔ PondOk (l.getD i z_Pond) ∧ seenP l i (l.getD i z_Pond).ID = false := fun i => by
      rw [← range_iff]
      unfold errP
      cases rangeP (l.getD i z_Pond) <;> cases seenP l i (l.getD i z_Pond).ID <;> simp
    rw [cond_false]
    cases hf : fst (fun i => errP l i != 0) l.length with
    | some i =>
      obtain ⟨a, b, _⟩ := fst_some.1 hf
      have hne : errP l i ≠ 0 := by simpa using b
      simp only
      exact ⟨fun h => absurd h hne, fun h => (he i).2 (h.2 i a)⟩
    | none =>
      simp only [true_iff]
      exact ⟨hl, fun i hi => (he i).1 (by simpa using fst_none.1 hf i hi)⟩
theorem right_all {l : List Pond} (h : rightS l = 0) : ∀ p, p ∈ l → PondOk p := fun p hp => by
  obtain ⟨i, hi, rfl⟩ := mem_getD z_Pond hp
  exact (((right_iff l).1 h).2 i hi).1
def totI (l : List Pond) : Int := (l.map fun p => p.Volume).sum
def spaI (l : List Pond) : Int := (l.map fun p => p.Volume - p.Least).sum
theorem sum_bound {α : Type} (f : α → Int) (b : Int) (l : List α) (h : ∀ p, p ∈ l → 0 ≤ f p ∧ f p ≤ b) : 0 ≤ (l.map f).sum ∧ (l.map f).sum ≤ b * l.length := by
  induction l with
  | nil => simp
  | cons p l ih =>
    have h1 := h p (List.mem_cons_self ..)
    have h2 := ih fun q hq => h q (List.mem_cons_of_mem _ hq)
    simp only [List.map_cons, List.sum_cons, List.length_cons]
    rw [Int.natCast_add, Int.mul_add]
    omega
theorem sum_step {α : Type} (f : α → Int) (l : List α) (d : α) (i : Nat) (hi : i < l.length) : ((l.take (i + 1)).map f).sum = ((l.take i).map f).sum + f (l.getD i d) := by
  rw [take_getD l i d hi, List.map_append, List.sum_append]
  simp
section
variable {N : Nat} (hN : 1000 < N)
include hN
theorem total_eq (l : List Pond) (hl : l.length ≤ 8) (h : ∀ p, p ∈ l → PondOk p) : pond_Total N l = some (totI l) := by
  unfold pond_Total
  refine (bindT (fun i => (totI (l.take i), (i : Int))) rfl (totI l) l.length (show l.length < N by omega) (fun i hi => ?_) ?_).trans rfl
  · have hp := h _ (getD_mem l i z_Pond hi)
    unfold PondOk at hp
    have hb := sum_bound (fun p : Pond => p.Volume) 1000000000 (l.take i) (fun p hp' => by have := h p (List.mem_of_mem_take hp'); unfold PondOk at this; omega)
    have hlen : (l.take i).length ≤ 8 := by simp; omega
    have hs := sum_step (fun p : Pond => p.Volume) l z_Pond i hi
    have e : totI (l.take i) = ((l.take i).map fun p => p.Volume).sum := rfl
    simp only [dlt hi, dge, Bool.and_self, cond_true, Int.toNat_natCast, wrapC (show i < 9223372036854775807 by omega)]
    rw [wrap64 (by omega) (by omega), show totI (l.take (i + 1)) = _ from hs, e]
  · simp only [dnlt, cond_false, List.take_length]
theorem spare_eq (l : List Pond) (hl : l.length ≤ 8) (h : ∀ p, p ∈ l → PondOk p) : pond_Spare N l = some (spaI l) := by
  unfold pond_Spare
  refine (bindT (fun i => (spaI (l.take i), (i : Int))) rfl (spaI l) l.length (show l.length < N by omega) (fun i hi => ?_) ?_).trans rfl
  · have hp := h _ (getD_mem l i z_Pond hi)
    unfold PondOk at hp
    have hb := sum_bound (fun p : Pond => p.Volume - p.Least) 1000000000 (l.take i) (fun p hp' => by have := h p (List.mem_of_mem_take hp'); unfold PondOk at this; omega)
    have hlen : (l.take i).length ≤ 8 := by simp; omega
    have hs := sum_step (fun p : Pond => p.Volume - p.Least) l z_Pond i hi
    have e : spaI (l.take i) = ((l.take i).map fun p => p.Volume - p.Least).sum := rfl
    simp only [dlt hi, dge, Bool.and_self, cond_true, Int.toNat_natCast, wrapC (show i < 9223372036854775807 by omega)]
    rw [wrap64 (z := (l.getD i z_Pond).Volume - (l.getD i z_Pond).Least) (by omega) (by omega), wrap64 (by omega) (by omega), show spaI (l.take (i + 1)) = _ from hs, e]
  · simp only [dnlt, cond_false, List.take_length]
end
end Go.Proofs.YtkhkblihdabnoaaGreat.Pn

/- Snowmaking: the functions of pumps and pipes return, whatever they are given (within bounds of length); Power and Why. No condition. -/
namespace Go.Proofs.YtkhkblihdabnoaaGreat
open Go.Cm Go.Proofs
theorem alive_ok : l44_alive 2000 = some true := by kernel_rfl
/-! a computation returns, and its result has a property -/
def W {α : Type} (Q : α → Prop) (x : Option α) : Prop := ∃ r, x = some r ∧ Q r
theorem W_some {α : Type} {Q : α → Prop} {r : α} (h : Q r) : W Q (some r) := ⟨r, rfl, h⟩
theorem W_bind {α β : Type} {Q' : α → Prop} {Q : β → Prop} {x : Option α} {f : α → Option β} (h : W Q' x) (hf : ∀ r, Q' r → W Q (f r)) : W Q (x.bind f) := by
  obtain ⟨r, rfl, hr⟩ := h
  exact hf r hr
theorem W_cond {α : Type} {Q : α → Prop} {b : Bool} {x y : Option α} (h1 : b = true → W Q x) (h2 : b = false → W Q y) : W Q (bif b then x else y) := by
  cases b
  · exact h2 rfl
  · exact h1 rfl
theorem W_elim {α β γ : Type} {Q : γ → Prop} {f : α → Option γ} {g : β → Option γ} {r : α ⊕ β} (h1 : ∀ p, W Q (f p)) (h2 : ∀ p, W Q (g p)) : W Q (Sum.elim f g r) := by
  cases r
  · exact h1 _
  · exact h2 _
theorem W_mono {α : Type} {Q Q' : α → Prop} {x : Option α} (h : W Q x) (hq : ∀ r, Q r → Q' r) : W Q' x := by
  obtain ⟨r, e, hr⟩ := h
  exact ⟨r, e, hq r hr⟩
theorem W_loop {σ ρ : Type} {body : σ → Option (σ ⊕ ρ)} {s0 : σ} {N : Nat} {Q : ρ → Prop} (I : Nat → σ → Prop) (n : Nat) (h0 : I 0 s0) (hs : ∀ i s, i < n → I i s → W (Sum.elim (I (i + 1)) Q) (body s)) (he : ∀ s, I n s → W (Sum.elim (fun _ => False) Q) (body s)) (hN : n < N) : W Q (whileF N body s0) :=
  whileF_inv I Q n h0 (fun i s hi hI => by
    obtain ⟨r, e, hr⟩ := hs i s hi hI
    cases r with
    | inl s' => exact .inl ⟨s', e, hr⟩
    | inr r => exact .inr ⟨r, e, hr⟩) (fun s hI => by
    obtain ⟨r, e, hr⟩ := he s hI
    cases r with
    | inl s' => exact hr.elim
    | inr r => exact ⟨r, e, hr⟩) hN
theorem idxOk {n : Nat} {z : Int} (h : z = (n : Int)) {m : Nat} (hm : n < m) : (decide (0 ≤ z) && decide (z < (m : Int))) = true := by subst h; simp [hm]
section
variable {N : Nat} (hN : 1000 < N)
include hN
/-! pumps -/
omit hN in
theorem shl_small {n : Nat} (h : n ≤ 8) : IntKind.i64.wrap (shlI IntKind.i64 1 (n : Int) - 1) = ((2 ^ n - 1 : Nat) : Int) := by
  match n, h with
  | 0, _ => decide
  | 1, _ => decide
  | 2, _ => decide
  | 3, _ => decide
  | 4, _ => decide
  | 5, _ => decide
  | 6, _ => decide
  | 7, _ => decide
  | 8, _ => decide
  | n + 9, h => omega
theorem members_tot {x : Nat} (hx : x < 256) : W (fun l => l.length ≤ 8) (pump_members N (x : Int)) := by
  unfold pump_members
  refine W_bind (Q' := fun l => l.length ≤ 8) ?_ fun r hr => W_some hr
  have hz : shrI IntKind.i64 (x : Int) ((8 : Nat) : Int) = 0 := by
    show (x : Int).fdiv (2 ^ (min ((8 : Nat) : Int).toNat 64)) = 0
    rw [Int.fdiv_eq_ediv_of_nonneg _ (by decide)]
    have h8 : (2 : Int) ^ 8 = 256 := by decide
    exact Int.ediv_eq_zero_of_lt (by omega) (by show (x : Int) < 2 ^ 8; omega)
  refine W_loop (fun i s => s.2 = (i : Int) ∧ s.1.length ≤ i) 8 ⟨rfl, Nat.le_refl _⟩ (fun i s hi hI => ?_) (fun s hI => ?_) (by omega)
  · obtain ⟨l, k⟩ := s
    obtain ⟨hk, hl⟩ := hI
    simp only at hk hl
    subst hk
    have hb : ∀ y : Int, decide ((l.length + [y].length) * 8 ≤ 140737488355328) = true := fun y => by simp only [List.length_singleton, decide_eq_true_eq]; omega
    simp only [dge, cond_true, Option.bind_some, hb, wrapC (show i < 9223372036854775807 by omega)]
    refine W_cond (fun _ => ?_) (fun _ => W_some (show l.length ≤ 8 by omega))
    refine W_bind (Q' := fun r : List Int => r.length ≤ i + 1) (W_cond (fun _ => W_some (by simp; omega)) (fun _ => W_some (by omega))) fun r hr => W_some ⟨rfl, hr⟩
  · obtain ⟨l, k⟩ := s
    obtain ⟨hk, hl⟩ := hI
    simp only at hk hl
    subst hk
    have : (shrI IntKind.i64 (x : Int) ((8 : Nat) : Int) != 0) = false := by rw [hz]; rfl
    simp only [dge, cond_true, this, cond_false]
    exact W_some hl
theorem contains_tot {l : List Int} (hl : l.length ≤ 900) (x : Int) : W (fun _ => True) (sl_Contains_int N l x) := by
  unfold sl_Contains_int sl_Index_int
  refine W_bind (Q' := fun _ => True) ?_ fun r _ => W_some trivial
  refine W_bind (Q' := fun _ => True) ?_ fun r _ => W_elim (fun _ => W_some trivial) (fun _ => W_some trivial)
  refine W_loop (fun i s => s = (i : Int)) l.length rfl (fun i s hi hI => ?_) (fun s hI => ?_) (by omega)
  · subst hI
    simp only [dlt hi, dge, Bool.and_self, cond_true, wrapC (show i < 9223372036854775807 by omega)]
    exact W_cond (fun _ => W_some trivial) (fun _ => W_some rfl)
  · subst hI
    simp only [dnlt, cond_false]
    exact W_some trivial
theorem flow_tot {l : List Pump} (hl : l.length ≤ 900) {c : List Int} (hc : c.length ≤ 900) : W (fun _ => True) (pump_Flow N l c) := by
  unfold pump_Flow
  refine W_bind (Q' := fun _ => True) ?_ fun r _ => W_some trivial
  refine W_loop (fun i s => s.2 = (i : Int)) l.length rfl (fun i s hi hI => ?_) (fun s hI => ?_) (by omega)
  · obtain ⟨a, k⟩ := s
    simp only at hI
    subst hI
    simp only [dlt hi, dge, Bool.and_self, cond_true, wrapC (show i < 9223372036854775807 by omega)]
    refine W_bind (contains_tot hN hc _) fun r _ => W_bind (Q' := fun _ => True) (W_cond (fun _ => W_some trivial) (fun _ => W_some trivial)) fun r _ => W_some rfl
  · obtain ⟨a, k⟩ := s
    simp only at hI
    subst hI
    simp only [dnlt, cond_false]
    exact W_some trivial
theorem ppower_tot {l : List Pump} (hl : l.length ≤ 900) {c : List Int} (hc : c.length ≤ 900) : W (fun _ => True) (pump_Power N l c) := by
  unfold pump_Power
  refine W_bind (Q' := fun _ => True) ?_ fun r _ => W_some trivial
  refine W_loop (fun i s => s.2 = (i : Int)) l.length rfl (fun i s hi hI => ?_) (fun s hI => ?_) (by omega)
  · obtain ⟨a, k⟩ := s
    simp only at hI
    subst hI
    simp only [dlt hi, dge, Bool.and_self, cond_true, wrapC (show i < 9223372036854775807 by omega)]
    refine W_bind (contains_tot hN hc _) fun r _ => W_bind (Q' := fun _ => True) (W_cond (fun _ => W_some trivial) (fun _ => W_some trivial)) fun r _ => W_some rfl
  · obtain ⟨a, k⟩ := s
    simp only at hI
    subst hI
    simp only [dnlt, cond_false]
    exact W_some trivial
omit hN in
theorem cmp_tot (a b : Int) : W (fun _ => True) (cmp_Compare_int_ N a b) := by
  unfold cmp_Compare_int_ cmp_isNaN_int_
  simp only [Option.bind_some]
  exact W_cond (fun _ => W_cond (fun _ => W_some trivial) (fun _ => W_some trivial)) (fun _ => W_cond (fun _ => W_some trivial) (fun _ => W_cond (fun _ => W_some trivial) (fun _ => W_cond (fun _ => W_some trivial) (fun _ => W_some trivial))))
theorem compare_tot {a b : List Int} (ha : a.length ≤ 900) : W (fun _ => True) (sl_Compare_int N a b) := by
  unfold sl_Compare_int
  refine W_bind (Q' := fun _ => True) ?_ fun r _ => W_elim (fun _ => W_cond (fun _ => W_some trivial) (fun _ => W_some trivial)) (fun _ => W_some trivial)
  refine W_loop (fun i s => s = (i : Int)) a.length rfl (fun i s hi hI => ?_) (fun s hI => ?_) (by omega)
  · subst hI
    simp only [dlt hi, dge, Bool.and_self, cond_true, Bool.true_and, wrapC (show i < 9223372036854775807 by omega)]
    refine W_cond (fun _ => W_some trivial) (fun h => ?_)
    have hb : decide ((i : Int) < (b.length : Int)) = true := by rw [decide_eq_false_iff_not] at h; rw [decide_eq_true_eq]; omega
    simp only [hb, cond_true]
    exact W_bind (cmp_tot _ _) fun r _ => W_cond (fun _ => W_some trivial) (fun _ => W_some rfl)
  · subst hI
    simp only [dnlt, cond_false]
    exact W_some trivial
theorem best_tot (l : List Pump) (x : Int) : W (fun _ => True) (pump_Best N l x) := by
  unfold pump_Best
  refine W_cond (fun _ => W_some trivial) (fun _ => W_cond (fun _ => W_some trivial) (fun h => ?_))
  have hl : l.length ≤ 8 := by rw [decide_eq_false_iff_not] at h; omega
  rw [shl_small hl]
  have hp : 2 ^ l.length ≤ 2 ^ 8 := Nat.pow_le_pow_right (by decide) hl
  have hp' : 2 ^ l.length - 1 < 256 := by have : 2 ^ 8 = 256 := by decide
                                          have : 0 < 2 ^ l.length := Nat.pow_pos (by decide)
                                          omega
  generalize 2 ^ l.length - 1 = a at hp'
  refine W_bind (members_tot hN hp') fun r2 h2 => W_bind (flow_tot hN (by omega) (by omega)) fun r3 _ => W_cond (fun _ => W_some trivial) (fun _ => W_bind (ppower_tot hN (by omega) (by omega)) fun r4 _ => ?_)
  refine W_bind (Q' := fun _ => True) ?_ fun r _ => W_some trivial
  refine W_loop (fun i s => s.2.2 = (i : Int) ∧ s.1.length ≤ 8) a ⟨rfl, h2⟩ (fun i s hi hI => ?_) (fun s hI => ?_) (by omega)
  · obtain ⟨c, lp, k⟩ := s
    obtain ⟨hk, hc⟩ := hI
    simp only at hk hc
    subst hk
    simp only [dlt hi, cond_true, wrapC (show i < 9223372036854775807 by omega)]
    refine W_bind (Q' := fun r : List Int × Int => r.1.length ≤ 8) ?_ fun r hr => W_some ⟨rfl, hr⟩
    refine W_bind (members_tot hN (show i < 256 by omega)) fun r6 h6 => W_bind (flow_tot hN (by omega) (by omega)) fun r7 _ => W_cond (fun _ => W_some hc) (fun _ => W_bind (ppower_tot hN (by omega) (by omega)) fun r8 _ => ?_)
    refine W_bind (Q' := fun _ => True) (W_cond (fun _ => W_some trivial) (fun _ => W_cond (fun _ => W_bind (compare_tot hN (by omega)) fun r _ => W_some trivial) (fun _ => W_some trivial))) fun r10 _ => ?_
    exact W_bind (Q' := fun r : List Int × Int => r.1.length ≤ 8) (W_cond (fun _ => W_some h6) (fun _ => W_some hc)) fun r hr => W_some hr
  · obtain ⟨c, lp, k⟩ := s
    obtain ⟨hk, hc⟩ := hI
    simp only at hk
    subst hk
    simp only [dnlt, cond_false]
    exact W_some trivial
/-! pipes -/
theorem find_tot {l : List Pipe} (hl : l.length ≤ 900) (x : Int) : W (fun r : Int => -1 ≤ r ∧ r < (l.length : Int)) (pipe_find N l x) := by
  unfold pipe_find
  refine W_bind (Q' := Sum.elim (fun _ => True) (fun r => 0 ≤ r ∧ r < (l.length : Int))) ?_ fun r hr => ?_
  · refine W_loop (fun i s => s = (i : Int)) l.length rfl (fun i s hi hI => ?_) (fun s hI => ?_) (by omega)
    · subst hI
      simp only [dlt hi, dge, Bool.and_self, cond_true, wrapC (show i < 9223372036854775807 by omega)]
      exact W_cond (fun _ => W_some (show (0 : Int) ≤ i ∧ (i : Int) < l.length by omega)) (fun _ => W_some rfl)
    · subst hI
      simp only [dnlt, cond_false]
      exact W_some trivial
  · cases r with
    | inl u => exact W_some ⟨by omega, by omega⟩
    | inr r => exact W_some ⟨by have := hr.1; omega, hr.2⟩
theorem flows_tot {l : List Pipe} (hl : l.length ≤ 900) {d : List Draw} (hd : d.length ≤ 900) : W (fun r => r.length = l.length) (pipe_Flows N l d) := by
  unfold pipe_Flows
  have c1 : decide ((l.length : Int) ≤ (l.length : Int)) = true := by simp
  have c2 : decide ((l.length : Int) * 8 ≤ 140737488355328) = true := by rw [decide_eq_true_eq]; omega
  simp only [c1, c2, Bool.and_self, cond_true, Option.bind_some, Int.toNat_natCast]
  have key : ∀ (r : Int) (p : List Int), p.length = l.length → r < (l.length : Int) → decide (r ≥ 0) = true → (decide (0 ≤ r) && decide (r < (p.length : Int))) = true := fun r p hp hr h => by
    rw [decide_eq_true_eq] at h
    simp only [Bool.and_eq_true, decide_eq_true_eq]
    omega
  refine W_bind (Q' := fun r : List Int => r.length = l.length) ?_ fun r6 h6 => W_bind (Q' := fun r : List Int => r.length = l.length) ?_ fun r h => W_some h
  · refine W_loop (fun i s => s.1 = (i : Int) ∧ s.2.length = l.length) d.length ⟨rfl, by simp⟩ (fun i s hi hI => ?_) (fun s hI => ?_) (by omega)
    · obtain ⟨k, p⟩ := s
      obtain ⟨hk, hp⟩ := hI
      simp only at hk hp
      subst hk
      simp only [dlt hi, dge, Bool.and_self, cond_true, wrapC (show i < 9223372036854775807 by omega)]
      refine W_bind (find_tot hN hl _) fun r4 h4 => W_cond (fun h => ?_) (fun _ => W_some ⟨rfl, hp⟩)
      simp only [key r4 p hp h4.2 h, cond_true]
      exact W_some ⟨rfl, by simp [hp]⟩
    · obtain ⟨k, p⟩ := s
      obtain ⟨hk, hp⟩ := hI
      simp only at hk hp
      subst hk
      simp only [dnlt, cond_false]
      exact W_some hp
  · have e0 : IntKind.i64.wrap ((l.length : Int) - 1) = (l.length : Int) - 1 := wrap64 (by omega) (by omega)
    rw [e0]
    refine W_loop (fun i s => s.1 = (l.length : Int) - 1 - i ∧ s.2.length = l.length) l.length ⟨by omega, h6⟩ (fun i s hi hI => ?_) (fun s hI => ?_) (by omega)
    · obtain ⟨k, p⟩ := s
      obtain ⟨hk, hp⟩ := hI
      simp only at hk hp
      obtain ⟨m, hm⟩ : ∃ m : Nat, k = (m : Int) := ⟨k.toNat, by omega⟩
      subst hm
      have hml : m < l.length := by omega
      have g1 : decide ((m : Int) ≥ 0) = true := by simp
      have e1 : IntKind.i64.wrap ((m : Int) - 1) = (m : Int) - 1 := wrap64 (by omega) (by omega)
      simp only [g1, dge, dlt hml, dlt (show m < p.length by omega), Bool.and_self, cond_true, e1]
      refine W_bind (find_tot hN hl _) fun r4 h4 => W_cond (fun h => ?_) (fun _ => W_some ⟨by simp only; omega, hp⟩)
      simp only [key r4 p hp h4.2 h, cond_true]
      exact W_some ⟨by simp only; omega, by simp [hp]⟩
    · obtain ⟨k, p⟩ := s
      obtain ⟨hk, hp⟩ := hI
      simp only at hk hp
      have g1 : decide (k ≥ 0) = false := by rw [decide_eq_false_iff_not]; omega
      simp only [g1, cond_false]
      exact W_some hp
theorem low_tot {l : List Pipe} (hl : l.length ≤ 900) {d : List Draw} (hd : d.length ≤ 900) (root : Int) {need : List Draw} (hn : need.length ≤ 900) : W (fun _ => True) (pipe_Low N l d root need) := by
  unfold pipe_Low
  have c1 : decide ((l.length : Int) ≤ (l.length : Int)) = true := by simp
  have c2 : decide ((l.length : Int) * 8 ≤ 140737488355328) = true := by rw [decide_eq_true_eq]; omega
  refine W_bind (flows_tot hN hl hd) fun r4 h4 => ?_
  simp only [c1, c2, Bool.and_self, cond_true, Option.bind_some, Int.toNat_natCast]
  have key : ∀ (r : Int) (p : List Int), p.length = l.length → r < (l.length : Int) → decide (r < 0) = false → (decide (0 ≤ r) && decide (r < (p.length : Int))) = true := fun r p hp hr h => by
    rw [decide_eq_false_iff_not] at h
    simp only [Bool.and_eq_true, decide_eq_true_eq]
    omega
  refine W_bind (Q' := fun r : List Int => r.length = l.length) ?_ fun r11 h11 => W_bind (Q' := fun _ => True) ?_ fun r _ => W_some trivial
  · refine W_loop (fun i s => s.1 = (i : Int) ∧ s.2.length = l.length) l.length ⟨rfl, by simp⟩ (fun i s hi hI => ?_) (fun s hI => ?_) (by omega)
    · obtain ⟨k, p⟩ := s
      obtain ⟨hk, hp⟩ := hI
      simp only at hk hp
      subst hk
      simp only [dlt hi, dge, dlt (show i < r4.length by omega), dlt (show i < p.length by omega), Bool.and_self, cond_true, wrapC (show i < 9223372036854775807 by omega), Option.bind_some]
      refine W_cond (fun _ => W_some ⟨rfl, by simp [hp]⟩) (fun _ => W_bind (find_tot hN hl _) fun r8 h8 => W_cond (fun _ => W_some ⟨rfl, by simp [hp]⟩) (fun h => ?_))
      simp only [key r8 p hp h8.2 h, cond_true]
      exact W_some ⟨rfl, by simp [hp]⟩
    · obtain ⟨k, p⟩ := s
      obtain ⟨hk, hp⟩ := hI
      simp only at hk hp
      subst hk
      simp only [dnlt, cond_false]
      exact W_some hp
  · refine W_loop (fun i s => s.2 = (i : Int) ∧ s.1.length ≤ i) need.length ⟨rfl, by simp⟩ (fun i s hi hI => ?_) (fun s hI => ?_) (by omega)
    · obtain ⟨p, k⟩ := s
      obtain ⟨hk, hp⟩ := hI
      simp only at hk hp
      subst hk
      have hb : ∀ y : Int, decide ((p.length + [y].length) * 8 ≤ 140737488355328) = true := fun y => by simp only [List.length_singleton, decide_eq_true_eq]; omega
      simp only [dlt hi, dge, Bool.and_self, cond_true, hb, wrapC (show i < 9223372036854775807 by omega), Option.bind_some]
      have step : ∀ (b : Bool) (y : Int), W (fun r : List Int => r.length ≤ i + 1) (bif b then some (p ++ [y]) else some p) := fun b y => W_cond (fun _ => W_some (by simp; omega)) (fun _ => W_some (by omega))
      refine W_cond (fun _ => W_bind (step _ _) fun r hr => W_some ⟨rfl, hr⟩) (fun _ => W_bind (find_tot hN hl _) fun r17 h17 => W_cond (fun _ => W_some ⟨rfl, by simp; omega⟩) (fun h => ?_))
      simp only [key r17 r11 h11 h17.2 h, cond_true]
      exact W_bind (step _ _) fun r hr => W_some ⟨rfl, hr⟩
    · obtain ⟨p, k⟩ := s
      obtain ⟨hk, hp⟩ := hI
      simp only at hk
      subst hk
      simp only [dnlt, cond_false]
      exact W_some trivial
/-! Power and Why -/
theorem gpower_tot {ks : List GunKind} (hk : ks.length ≤ 64) {l : List Gun} (hl : l.length ≤ 64) : W (fun _ => True) (gun_Power N ks l) := by
  unfold gun_Power
  refine W_bind (Q' := fun _ => True) ?_ fun r _ => W_some trivial
  refine W_loop (fun i s => s.2 = (i : Int)) l.length rfl (fun i s hi hI => ?_) (fun s hI => ?_) (by omega)
  · obtain ⟨a, k⟩ := s
    simp only at hI
    subst hI
    simp only [dlt hi, dge, Bool.and_self, cond_true, Gn.gkind_eq hN ks _ hk, Option.bind_some, wrapC (show i < 9223372036854775807 by omega)]
    exact W_bind (Q' := fun _ => True) (W_cond (fun _ => W_some trivial) (fun _ => W_some trivial)) fun r _ => W_some rfl
  · obtain ⟨a, k⟩ := s
    simp only at hI
    subst hI
    simp only [dnlt, cond_false]
    exact W_some trivial
structure Small (s : SnowSystem) : Prop where
  ponds : s.Ponds.length ≤ 30
  pumps : s.Pumps.length ≤ 30
  pipes : s.Pipes.length ≤ 30
  guns : s.Guns.length ≤ 30
  packs : s.Packs.length ≤ 30
  kinds : s.Kinds.length ≤ 30
  outs : ∀ i, i < s.Kinds.length → (s.Kinds.getD i z_GunKind).Output.length ≤ 70
theorem power_tot {s : SnowSystem} (h : Small s) (x : Int) : W (fun _ => True) (snowmaking_Power N s x) := by
  have h1 := h.guns
  have h2 := h.kinds
  unfold snowmaking_Power
  rw [Gn.draws_eq hN _ _ _ (by omega) (by omega), Option.bind_some]
  have hd := Gn.draws_len s.Kinds s.Guns x
  refine W_bind (Q' := fun _ => True) ?_ fun r4 _ => W_bind (best_tot hN _ _) fun r5 _ => W_cond (fun _ => W_some trivial) (fun _ => W_bind (gpower_tot hN (by omega) (by omega)) fun r6 _ => W_some trivial)
  refine W_loop (fun i s => s.2 = (i : Int)) (Gn.drawsS s.Kinds s.Guns x).length rfl (fun i s hi hI => ?_) (fun s hI => ?_) (by omega)
  · obtain ⟨a, k⟩ := s
    simp only at hI
    subst hI
    simp only [dlt hi, dge, Bool.and_self, cond_true, wrapC (show i < 9223372036854775807 by omega)]
    exact W_some rfl
  · obtain ⟨a, k⟩ := s
    simp only at hI
    subst hI
    simp only [dnlt, cond_false]
    exact W_some trivial
theorem why_tot {s : SnowSystem} (h : Small s) (x : Int) : W (fun _ => True) (snowmaking_Why N s x) := by
  have h1 := h.guns
  have h2 := h.kinds
  have h3 := h.pipes
  have hd := Gn.draws_len s.Kinds s.Guns x
  have hn := Gn.needs_len s.Kinds s.Guns
  unfold snowmaking_Why
  rw [Gn.draws_eq hN _ _ _ (by omega) (by omega), Gn.needs_eq hN _ _ (by omega) (by omega)]
  simp only [Option.bind_some]
  exact W_bind (power_tot hN h x) fun r2 _ => W_cond (fun _ => W_some trivial) (fun _ => W_cond (fun _ => W_some trivial) (fun _ => W_bind (low_tot hN (l := s.Pipes) (d := Gn.drawsS s.Kinds s.Guns x) (need := Gn.needsS s.Kinds s.Guns) (by omega) (by omega) _ (by omega)) fun r5 _ => W_cond (fun _ => W_some trivial) (fun _ => W_some trivial)))
/-- what Why = OK says -/
theorem why_ok {s : SnowSystem} (h : Small s) {x : Int} (hw : snowmaking_Why N s x = some 0) : ∃ p, snowmaking_Power N s x = some (p, 0) ∧ p ≤ s.Limit := by
  obtain ⟨⟨p, e⟩, hp, _⟩ := power_tot hN h x
  unfold snowmaking_Why at hw
  rw [hp, Option.bind_some] at hw
  cases he : (e != 0) with
  | true =>
    simp only [he, cond_true, Option.some.injEq] at hw
    rw [hw] at he
    cases he
  | false =>
    have he' : e = 0 := by simpa using he
    subst he'
    refine ⟨p, hp, ?_⟩
    by_cases hl : p > s.Limit
    · simp only [he, cond_false, hl, decide_true, cond_true, Option.some.injEq] at hw
      omega
    · omega
end
end Go.Proofs.YtkhkblihdabnoaaGreat

/- Snowmaking: Right returns; the law SnowmakingMay in plain words. No condition. -/
namespace Go.Proofs.YtkhkblihdabnoaaGreat
open Go.Cm Go.Proofs
section
variable {N : Nat} (hN : 1000 < N)
include hN
theorem small_tot (s : SnowSystem) : W (fun b => b = true → Small s) (l44_small N s) := by
  unfold l44_small
  refine W_bind (Q' := Sum.elim (fun _ => s.Kinds.length ≤ 30 ∧ ∀ i, i < s.Kinds.length → (s.Kinds.getD i z_GunKind).Output.length ≤ 70) (fun b => b = false)) ?_ fun r hr => ?_
  · refine W_loop (fun i z => z = (i : Int) ∧ ∀ j, j < i → (s.Kinds.getD j z_GunKind).Output.length ≤ 70) (min s.Kinds.length 30) ⟨rfl, fun j hj => by omega⟩ (fun i z hi hI => ?_) (fun z hI => ?_) (by omega)
    · obtain ⟨rfl, hI⟩ := hI
      have g1 : decide ((i : Int) ≥ 30) = false := by rw [decide_eq_false_iff_not]; omega
      simp only [dlt (show i < s.Kinds.length by omega), dge, Bool.and_self, cond_true, g1, cond_false, Option.bind_some, Int.toNat_natCast, wrapC (show i < 9223372036854775807 by omega)]
      refine W_cond (fun _ => W_some rfl) (fun h => W_some ⟨rfl, fun j hj => ?_⟩)
      rw [decide_eq_false_iff_not] at h
      rcases Nat.lt_succ_iff_lt_or_eq.1 hj with h1 | rfl
      · exact hI j h1
      · omega
    · obtain ⟨rfl, hI⟩ := hI
      by_cases hl : s.Kinds.length ≤ 30
      · rw [Nat.min_eq_left hl] at hI ⊢
        simp only [dnlt, cond_false]
        exact W_some ⟨hl, hI⟩
      · rw [Nat.min_eq_right (by omega)]
        have g1 : decide (((30 : Nat) : Int) ≥ 30) = true := by decide
        simp only [dlt (show 30 < s.Kinds.length by omega), cond_true, g1, Option.bind_some]
        exact W_some rfl
  · cases r with
    | inr b =>
      have hb : b = false := hr
      exact W_some (fun h => by rw [hb] at h; cases h)
    | inl u =>
      simp only [Sum.elim_inl, cond_and, Option.bind_some]
      refine W_some fun h => ?_
      simp only [Bool.and_eq_true, decide_eq_true_eq] at h
      have hk : s.Kinds.length ≤ 30 ∧ _ := hr
      exact ⟨by omega, by omega, by omega, by omega, by omega, hk.1, hk.2⟩
theorem pumpRight_tot (l : List Pump) : W (fun _ => True) (pump_Right N l) := by
  unfold pump_Right
  refine W_cond (fun _ => W_some trivial) (fun h => ?_)
  have hl : l.length ≤ 8 := by rw [decide_eq_false_iff_not] at h; omega
  refine W_bind (Q' := fun _ => True) ?_ fun r _ => W_elim (fun _ => W_some trivial) (fun _ => W_some trivial)
  refine W_loop (fun i s => s.1 = (i : Int)) l.length rfl (fun i s hi hI => ?_) (fun s hI => ?_) (by omega)
  · obtain ⟨k, f⟩ := s
    simp only at hI
    subst hI
    simp only [dlt hi, dge, Bool.and_self, cond_true, cond_or, Option.bind_some, wrapC (show i < 9223372036854775807 by omega)]
    exact W_cond (fun _ => W_some trivial) (fun _ => W_cond (fun _ => W_some trivial) (fun _ => W_some rfl))
  · obtain ⟨k, f⟩ := s
    simp only at hI
    subst hI
    simp only [dnlt, cond_false]
    exact W_some trivial
theorem pipeRight_tot (l : List Pipe) : W (fun _ => True) (pipe_Right N l) := by
  unfold pipe_Right
  refine W_cond (fun _ => W_some trivial) (fun h => ?_)
  have hl : l.length ≤ 64 := by rw [decide_eq_false_iff_not] at h; omega
  refine W_bind (Q' := fun _ => True) ?_ fun r _ => W_elim (fun _ => W_some trivial) (fun _ => W_some trivial)
  refine W_loop (fun i s => s = (i : Int)) l.length rfl (fun i s hi hI => ?_) (fun s hI => ?_) (by omega)
  · subst hI
    have htl : (l.take i).length = i := by simp; omega
    simp only [dlt hi, dle (show i ≤ l.length by omega), dge, Bool.and_self, cond_true, cond_or, Option.bind_some, Int.toNat_natCast, wrapC (show i < 9223372036854775807 by omega), htl]
    refine W_cond (fun _ => W_some trivial) (fun _ => W_cond (fun _ => W_some trivial) (fun _ => ?_))
    have hfin : ∀ c : Bool, W (Sum.elim (fun s : Int => s = ((i + 1 : Nat) : Int)) (fun _ : Unit ⊕ Int => True)) ((bif c then (pipe_find N (l.take i) (l.getD i z_Pipe).From).bind fun (r8 : Int) => some (decide (r8 < (0 : Int))) else some false).bind fun (r9 : Bool) =>
        bif r9 then some (Sum.inr (Sum.inr (8 : Int))) else some (Sum.inl ((i + 1 : Nat) : Int))) := fun c =>
      W_bind (Q' := fun _ => True) (W_cond (fun _ => W_bind (find_tot hN (by omega) _) fun r _ => W_some trivial) (fun _ => W_some trivial)) fun r _ => W_cond (fun _ => W_some trivial) (fun _ => W_some rfl)
    refine W_bind (Q' := fun _ => True) ?_ fun r _ => W_elim (fun _ => hfin _) (fun _ => W_cond (fun _ => W_some trivial) (fun _ => hfin _))
    refine W_loop (fun j s => s = (j : Int)) i rfl (fun j s hj hI => ?_) (fun s hI => ?_) (by omega)
    · subst hI
      simp only [dlt hj, dge, Bool.and_self, cond_true, wrapC (show j < 9223372036854775807 by omega)]
      exact W_cond (fun _ => W_some trivial) (fun _ => W_some rfl)
    · subst hI
      simp only [dnlt, cond_false]
      exact W_some trivial
  · subst hI
    simp only [dnlt, cond_false]
    exact W_some trivial
omit hN in
theorem upTo_eq (x m : Int) : snowmaking_upTo N x m = some (decide (x ≥ 0) && decide (x ≤ m)) := by
  unfold snowmaking_upTo
  rw [cond_and, Option.bind_some]
omit hN in
theorem packRight_tot (p : Pack) : W (fun _ => True) (snowpack_Right N p) := by
  unfold snowpack_Right snowpack_within
  simp only [cond_and, Option.bind_some]
  exact W_some trivial
omit hN in
theorem counters_tot (s : SnowSystem) : W (fun _ => True) (snowmaking_counters N s) := by
  unfold snowmaking_counters
  simp only [upTo_eq, Option.bind_some, cond_and]
  exact W_some trivial
theorem search_tot {l : List RunPack} (hl : l.length ≤ 900) {p : RunPack → Bool} {f : Int → Option (Int ⊕ (Unit ⊕ Int))} (hf : ∀ z, f z = bif decide (z < (l.length : Int)) then bif decide (0 ≤ z) && decide (z < (l.length : Int)) then bif p (l.getD z.toNat z_RunPack) then some (.inr (.inr z)) else some (.inl (IntKind.i64.wrap (z + 1))) else none else some (.inr (.inl ()))) :
    W (fun _ => True) (whileF N f 0) := by
  refine W_loop (fun i s => s = (i : Int)) l.length rfl (fun i s hi hI => ?_) (fun s hI => ?_) (by omega)
  · subst hI
    rw [hf]
    simp only [dlt hi, dge, Bool.and_self, cond_true, wrapC (show i < 9223372036854775807 by omega)]
    exact W_cond (fun _ => W_some trivial) (fun _ => W_some rfl)
  · subst hI
    rw [hf]
    simp only [dnlt, cond_false]
    exact W_some trivial
theorem right_tot {s : SnowSystem} (h : Small s) : W (fun _ => True) (snowmaking_Right N s) := by
  have h1 := h.guns
  have h2 := h.kinds
  have h3 := h.pipes
  have h4 := h.packs
  unfold snowmaking_Right
  rw [Pn.pright_eq hN, Gn.gright_eq hN]
  simp only [Option.bind_some, upTo_eq]
  refine W_cond (fun _ => W_some trivial) (fun _ => W_bind (pumpRight_tot hN _) fun r2 _ => W_cond (fun _ => W_some trivial) (fun _ => W_bind (pipeRight_tot hN _) fun r3 _ => W_cond (fun _ => W_some trivial) (fun _ => W_cond (fun _ => W_some trivial) (fun _ => W_cond (fun _ => W_some trivial) (fun _ => ?_)))))
  refine W_bind (Q' := fun _ => True) ?_ fun r9 _ => W_elim (fun _ => ?_) (fun _ => W_some trivial)
  · refine W_loop (fun i s => s = (i : Int)) s.Packs.length rfl (fun i z hi hI => ?_) (fun z hI => ?_) (by omega)
    · subst hI
      simp only [dlt hi, dge, Bool.and_self, cond_true, Int.toNat_natCast, wrapC (show i < 9223372036854775807 by omega)]
      refine W_bind (Q' := fun _ => True) (W_cond (fun _ => W_some trivial) (fun _ => W_cond (fun _ => W_some trivial) (fun _ => W_cond (fun _ => W_some trivial) (fun _ => W_cond (fun _ => W_some trivial) (fun _ => W_bind (packRight_tot _) fun r _ => W_some trivial))))) fun r7 _ => ?_
      refine W_cond (fun _ => W_some trivial) (fun _ => ?_)
      refine W_bind (Q' := fun _ => True) ?_ fun r8 _ => W_cond (fun _ => W_some trivial) (fun _ => W_some rfl)
      cases i with
      | zero => exact W_some trivial
      | succ k =>
        simp only [wrapS (show k < 9223372036854775807 by omega), dge, dlt (show k < s.Packs.length by omega), Bool.and_self, cond_true]
        exact W_cond (fun _ => W_some trivial) (fun _ => W_some trivial)
    · subst hI
      simp only [dnlt, cond_false]
      exact W_some trivial
  · refine W_bind (Q' := fun _ => True) ?_ fun r21 _ => W_elim (fun _ => ?_) (fun _ => W_some trivial)
    · refine W_loop (fun i s => s = (i : Int)) s.Guns.length rfl (fun i z hi hI => ?_) (fun z hI => ?_) (by omega)
      · subst hI
        simp only [dlt hi, dge, Bool.and_self, cond_true, Int.toNat_natCast, wrapC (show i < 9223372036854775807 by omega)]
        refine W_bind (Q' := fun _ => True) ?_ fun r13 _ => W_elim (fun _ => W_some trivial) (fun p15 => ?_)
        · refine W_loop (fun i s => s = (i : Int)) s.Packs.length rfl (fun i z hi hI => ?_) (fun z hI => ?_) (by omega)
          · subst hI
            simp only [dlt hi, dge, Bool.and_self, cond_true, wrapC (show i < 9223372036854775807 by omega)]
            exact W_cond (fun _ => W_some trivial) (fun _ => W_some rfl)
          · subst hI
            simp only [dnlt, cond_false]
            exact W_some trivial
        · refine W_bind (Q' := fun _ => True) (W_cond (fun _ => W_some trivial) (fun _ => ?_)) fun r20 _ => W_cond (fun _ => W_some trivial) (fun _ => W_some rfl)
          refine W_bind (Q' := fun _ => True) ?_ fun r17 _ => W_elim (fun _ => W_some trivial) (fun _ => W_some trivial)
          refine W_loop (fun i s => s = (i : Int)) s.Pipes.length rfl (fun i z hi hI => ?_) (fun z hI => ?_) (by omega)
          · subst hI
            simp only [dlt hi, dge, Bool.and_self, cond_true, wrapC (show i < 9223372036854775807 by omega)]
            exact W_cond (fun _ => W_some trivial) (fun _ => W_some rfl)
          · subst hI
            simp only [dnlt, cond_false]
            exact W_some trivial
      · subst hI
        simp only [dnlt, cond_false]
        exact W_some trivial
    · refine W_bind (Q' := fun _ => True) (W_cond (fun _ => W_some trivial) (fun _ => W_cond (fun _ => W_some trivial) (fun _ => W_cond (fun _ => W_some trivial) (fun _ => W_bind (counters_tot s) fun r _ => W_some trivial)))) fun r _ => W_cond (fun _ => W_some trivial) (fun _ => W_some trivial)
/-! a copy -/
theorem copy_eq {s : SnowSystem} (h : Small s) : snowmaking_copyOf N s = some s := by
  obtain ⟨h1, h2, h3, h4, h5, h6, h7⟩ := h
  unfold snowmaking_copyOf sl_Clone_Pond sl_Clone_Pump sl_Clone_Pipe sl_Clone_GunKind sl_Clone_Gun sl_Clone_RunPack
  have d0 : decide ((0 + s.Ponds.length) * 40 ≤ 140737488355328) = true := by rw [decide_eq_true_eq]; omega
  have d1 : decide ((0 + s.Pumps.length) * 24 ≤ 140737488355328) = true := by rw [decide_eq_true_eq]; omega
  have d2 : decide ((0 + s.Pipes.length) * 40 ≤ 140737488355328) = true := by rw [decide_eq_true_eq]; omega
  have d3 : decide ((0 + s.Kinds.length) * 48 ≤ 140737488355328) = true := by rw [decide_eq_true_eq]; omega
  have d4 : decide ((0 + s.Guns.length) * 64 ≤ 140737488355328) = true := by rw [decide_eq_true_eq]; omega
  have d5 : decide ((0 + s.Packs.length) * 40 ≤ 140737488355328) = true := by rw [decide_eq_true_eq]; omega
  simp only [d0, d1, d2, d3, d4, d5, cond_true, Option.bind_some]
  refine (bindT (fun i => ((i : Int), s.Kinds)) rfl s.Kinds s.Kinds.length (show s.Kinds.length < N by omega) (fun i hi => ?_) ?_).trans rfl
  · have hc : sl_Clone_Point N (s.Kinds.getD i z_GunKind).Output = some (s.Kinds.getD i z_GunKind).Output := by
      unfold sl_Clone_Point
      have := h7 i hi
      have : decide ((0 + (s.Kinds.getD i z_GunKind).Output.length) * 16 ≤ 140737488355328) = true := by rw [decide_eq_true_eq]; omega
      rw [this]; rfl
    simp only [dlt hi, dge, Bool.and_self, cond_true, Int.toNat_natCast, hc, Option.bind_some, wrapC (show i < 9223372036854775807 by omega)]
    have : s.Kinds.set i (GunKind.mk (s.Kinds.getD i z_GunKind).ID (s.Kinds.getD i z_GunKind).Output (s.Kinds.getD i z_GunKind).Power (s.Kinds.getD i z_GunKind).Pressure) = s.Kinds := by
      refine list_ext z_GunKind (by simp) fun j hj => ?_
      rw [getD_set _ _ _ _ _ hi]
      by_cases hij : i = j
      · rw [if_pos hij, ← hij]
      · rw [if_neg hij]
    rw [this]
  · simp only [dnlt, cond_false]
/-- a gun is switched on -/
theorem switch_on {s : SnowSystem} (h : Small s) (id x : Int) : W (fun r : SnowSystem × Int => r.2 = 0 → Small r.1 ∧ snowmaking_Why N r.1 x = some 0 ∧ ∃ i, i < r.1.Guns.length ∧ (r.1.Guns.getD i z_Gun).ID = id ∧ (r.1.Guns.getD i z_Gun).State = 1) (snowmaking_Switch N s id true x) := by
  have h1 := h.guns
  unfold snowmaking_Switch
  rw [search (fun i => (s.Guns.getD i z_Gun).ID == id) (fun i => (i : Int)) () s.Guns.length (by omega) (fun i hi => ?_) (by simp)]
  · cases hf : fst (fun i => (s.Guns.getD i z_Gun).ID == id) s.Guns.length with
    | none => exact W_some (fun h => by cases h)
    | some i =>
      obtain ⟨hi, hid, _⟩ := fst_some.1 hf
      have hid : (s.Guns.getD i z_Gun).ID = id := by simpa using hid
      have g0 : decide ((i : Int) < 0) = false := by rw [decide_eq_false_iff_not]; omega
      simp only [Option.bind_some, sres, Sum.elim_inr, g0, cond_false, cond_true, dge, dlt hi, Bool.and_self, Int.toNat_natCast, Gn.start_eq, copy_eq hN h]
      obtain ⟨⟨g, e⟩, hg⟩ : ∃ q, Gn.startS (s.Guns.getD i z_Gun) s.Time = q := ⟨_, rfl⟩
      simp only [hg]
      refine W_cond (fun he => W_some (fun h0 => ?_)) (fun he => ?_)
      · have h0 : e = 0 := h0
        rw [h0] at he
        cases he
      · have he : e = 0 := by simpa using he
        subst he
        have hgg : g.ID = id ∧ g.State = 1 := by
          unfold Gn.startS Gn.becS at hg
          cases hq1 : ((s.Guns.getD i z_Gun).State != 0) <;> rw [hq1] at hg
          · cases hq2 : (decide (s.Time < (s.Guns.getD i z_Gun).Since) || decide (s.Time > 20000000)) <;> rw [hq2] at hg
            · cases hq3 : decide (s.Time < IntKind.i64.wrap ((s.Guns.getD i z_Gun).Since + (s.Guns.getD i z_Gun).Off)) <;> rw [hq3] at hg
              · simp only [cond_false, Prod.mk.injEq, and_true] at hg
                rw [← hg]
                exact ⟨hid, rfl⟩
              · simp at hg
            · simp at hg
          · simp at hg
        obtain ⟨t, ht⟩ : ∃ t, t = SnowSystem.mk s.Ponds s.Pumps s.Pipes s.Kinds (s.Guns.set i g) s.Packs s.Pressure s.Limit s.Time s.Water s.Lost s.Energy s.Inflow := ⟨_, rfl⟩
        rw [← ht]
        have hS : Small t := by rw [ht]; exact ⟨h.ponds, h.pumps, h.pipes, by simp only [List.length_set]; exact h.guns, h.packs, h.kinds, h.outs⟩
        obtain ⟨r, hw, _⟩ := why_tot hN hS x
        rw [hw]
        simp only [Option.bind_some]
        cases hr : (r != 0) with
        | true => exact W_some (fun h0 => by
            have h0 : r = 0 := h0
            rw [h0] at hr
            cases hr)
        | false =>
          have hr : r = 0 := by simpa using hr
          subst hr
          refine W_some (fun _ => ⟨hS, hw, i, ?_, ?_⟩)
          · rw [ht]; simp only [List.length_set]; exact hi
          · rw [ht]
            simp only
            rw [getD_set _ _ _ _ _ hi, if_pos rfl]
            exact hgg
  · simp only [dlt hi, dge, Bool.and_self, cond_true, Int.toNat_natCast, wrapN (show i < 9223372036854775807 by omega)]
end
end Go.Proofs.YtkhkblihdabnoaaGreat

/- Snowmaking: what it means that a system is right; the pumps for no flow. No condition. -/
namespace Go.Proofs.YtkhkblihdabnoaaGreat
open Go.Cm Go.Proofs
def PumpOk (p : Pump) : Prop := 1 ≤ p.ID ∧ p.ID ≤ 9999 ∧ 1 ≤ p.Flow ∧ p.Flow ≤ 1000000 ∧ 1 ≤ p.Power ∧ p.Power ≤ 100000000
def PackOk (p : RunPack) : Prop := 1 ≤ p.Run ∧ p.Run ≤ 9999 ∧ 1 ≤ p.Area ∧ p.Area ≤ 10000000 ∧ 0 ≤ p.Pack.Natural ∧ p.Pack.Natural ≤ 20000 ∧ 0 ≤ p.Pack.Machine ∧ p.Pack.Machine ≤ 20000 ∧ 50 ≤ p.Pack.Density ∧ p.Pack.Density ≤ 900
section
variable {N : Nat} (hN : 1000 < N)
include hN
theorem pumpRight_spec (l : List Pump) : W (fun r => r = 0 → l.length ≤ 8 ∧ ∀ i, i < l.length → PumpOk (l.getD i z_Pump)) (pump_Right N l) := by
  unfold pump_Right
  refine W_cond (fun _ => W_some (fun h => by cases h)) (fun h => ?_)
  have hl : l.length ≤ 8 := by rw [decide_eq_false_iff_not] at h; omega
  refine W_bind (Q' := Sum.elim (fun _ => ∀ i, i < l.length → PumpOk (l.getD i z_Pump)) (fun r : Int × (Int → Option Bool) => r.1 ≠ 0)) ?_ fun r hr => ?_
  · refine W_loop (fun i s => s.1 = (i : Int) ∧ ∀ j, j < i → PumpOk (l.getD j z_Pump)) l.length ⟨rfl, fun j hj => by omega⟩ (fun i s hi hI => ?_) (fun s hI => ?_) (by omega)
    · obtain ⟨k, f⟩ := s
      obtain ⟨hk, hI⟩ := hI
      simp only at hk
      subst hk
      simp only [dlt hi, dge, Bool.and_self, cond_true, cond_or, Option.bind_some, Int.toNat_natCast, wrapC (show i < 9223372036854775807 by omega)]
      refine W_cond (fun _ => W_some (show (2 : Int) ≠ 0 by decide)) (fun hb => W_cond (fun _ => W_some (show (7 : Int) ≠ 0 by decide)) (fun _ => W_some ⟨rfl, fun j hj => ?_⟩))
      rcases Nat.lt_succ_iff_lt_or_eq.1 hj with h1 | rfl
      · exact hI j h1
      · simp only [Bool.or_eq_false_iff, decide_eq_false_iff_not] at hb
        unfold PumpOk
        omega
    · obtain ⟨k, f⟩ := s
      obtain ⟨hk, hI⟩ := hI
      simp only at hk
      subst hk
      simp only [dnlt, cond_false]
      exact W_some hI
  · cases r with
    | inl f => exact W_some (fun _ => ⟨hl, hr⟩)
    | inr r => exact W_some (fun h => absurd h hr)
omit hN in
theorem packRight_eq (p : Pack) : snowpack_Right N p = some (decide (0 ≤ p.Natural) && decide (p.Natural ≤ 20000) && (decide (0 ≤ p.Machine) && decide (p.Machine ≤ 20000) && (decide (50 ≤ p.Density) && decide (p.Density ≤ 900)))) := by
  unfold snowpack_Right snowpack_within
  simp only [cond_and, Option.bind_some]
structure RightOk (N : Nat) (s : SnowSystem) : Prop where
  ponds : Pn.rightS s.Ponds = 0
  pumps : s.Pumps.length ≤ 8 ∧ ∀ i, i < s.Pumps.length → PumpOk (s.Pumps.getD i z_Pump)
  pumpR : pump_Right N s.Pumps = some 0
  pipeR : pipe_Right N s.Pipes = some 0
  guns : Gn.rightS s.Kinds s.Guns = 0
  packs : ∀ i, i < s.Packs.length → PackOk (s.Packs.getD i z_RunPack)
  incr : ∀ i, i + 1 < s.Packs.length → (s.Packs.getD i z_RunPack).Run < (s.Packs.getD (i + 1) z_RunPack).Run
  rest : 0 ≤ s.Pressure ∧ s.Pressure ≤ 10000000 ∧ 0 ≤ s.Limit ∧ s.Limit ≤ 1000000000 ∧ 0 ≤ s.Time ∧ s.Time ≤ 20000000
  count : 0 ≤ s.Water ∧ s.Water ≤ 1125899906842624 ∧ 0 ≤ s.Lost ∧ s.Lost ≤ 1125899906842624 ∧ 0 ≤ s.Energy ∧ s.Energy ≤ 1125899906842624 ∧ 0 ≤ s.Inflow ∧ s.Inflow ≤ 1125899906842624
omit hN in
theorem counters_eq (s : SnowSystem) : snowmaking_counters N s = some (decide (s.Water ≥ 0) && decide (s.Water ≤ 1125899906842624) && (decide (s.Lost ≥ 0) && decide (s.Lost ≤ 1125899906842624) && (decide (s.Energy ≥ 0) && decide (s.Energy ≤ 1125899906842624) && (decide (s.Inflow ≥ 0) && decide (s.Inflow ≤ 1125899906842624))))) := by
  unfold snowmaking_counters
  simp only [upTo_eq, Option.bind_some, cond_and]
theorem right_spec {s : SnowSystem} (h : Small s) : W (fun r => r = 0 → RightOk N s) (snowmaking_Right N s) := by
  have h1 := h.guns
  have h2 := h.kinds
  have h3 := h.pipes
  have h4 := h.packs
  unfold snowmaking_Right
  rw [Pn.pright_eq hN, Gn.gright_eq hN]
  simp only [Option.bind_some, upTo_eq]
  have ne : ∀ r : Int, (r != 0) = true → r = 0 → False := fun r hr h0 => by rw [h0] at hr; cases hr
  refine W_cond (fun hb => W_some (fun h0 => (ne _ hb h0).elim)) (fun hp => ?_)
  obtain ⟨r2, e2, q2⟩ := pumpRight_spec hN s.Pumps
  obtain ⟨r3, e3, _⟩ := pipeRight_tot hN s.Pipes
  rw [e2, e3]
  simp only [Option.bind_some]
  refine W_cond (fun hb => W_some (fun h0 => (ne _ hb h0).elim)) (fun h2' => W_cond (fun hb => W_some (fun h0 => (ne _ hb h0).elim)) (fun h3' => W_cond (fun hb => W_some (fun h0 => (ne _ hb h0).elim)) (fun h4' => W_cond (fun hb => W_some (fun h0 => by cases h0)) (fun h5' => ?_))))
  have z2 : r2 = 0 := by simpa using h2'
  have z3 : r3 = 0 := by simpa using h3'
  subst z2
  subst z3
  refine W_bind (Q' := Sum.elim (fun _ => (∀ i, i < s.Packs.length → PackOk (s.Packs.getD i z_RunPack)) ∧ ∀ i, i + 1 < s.Packs.length → (s.Packs.getD i z_RunPack).Run < (s.Packs.getD (i + 1) z_RunPack).Run) (fun r : Int => r ≠ 0)) ?_ fun r9 h9 => ?_
  · refine W_loop (fun i z => z = (i : Int) ∧ (∀ j, j < i → PackOk (s.Packs.getD j z_RunPack)) ∧ ∀ j, j + 1 < i → (s.Packs.getD j z_RunPack).Run < (s.Packs.getD (j + 1) z_RunPack).Run) s.Packs.length ⟨rfl, fun j hj => by omega, fun j hj => by omega⟩ (fun i z hi hI => ?_) (fun z hI => ?_) (by omega)
    · obtain ⟨rfl, i1, i2⟩ := hI
      simp only [dlt hi, dge, Bool.and_self, cond_true, Int.toNat_natCast, packRight_eq, Option.bind_some, cond_or, wrapC (show i < 9223372036854775807 by omega)]
      refine W_cond (fun _ => W_some (show (2 : Int) ≠ 0 by decide)) (fun hb => ?_)
      have hok : PackOk (s.Packs.getD i z_RunPack) := by
        simp only [Bool.or_eq_false_iff, Bool.not_eq_false', Bool.and_eq_true, decide_eq_true_eq, decide_eq_false_iff_not] at hb
        unfold PackOk
        omega
      have hall : ∀ j, j < i + 1 → PackOk (s.Packs.getD j z_RunPack) := fun j hj => by
        rcases Nat.lt_succ_iff_lt_or_eq.1 hj with h1 | rfl
        · exact i1 j h1
        · exact hok
      cases i with
      | zero => exact W_some ⟨rfl, hall, fun j hj => by omega⟩
      | succ k =>
        have g1 : decide (((k + 1 : Nat) : Int) > 0) = true := by simp
        simp only [g1, cond_true, wrapS (show k < 9223372036854775807 by omega), dge, dlt (show k < s.Packs.length by omega), Bool.and_self, Int.toNat_natCast, Option.bind_some]
        refine W_cond (fun _ => W_some (show (11 : Int) ≠ 0 by decide)) (fun hb2 => W_some ⟨rfl, hall, fun j hj => ?_⟩)
        rw [decide_eq_false_iff_not] at hb2
        by_cases hjk : j = k
        · subst hjk; omega
        · exact i2 j (by omega)
    · obtain ⟨rfl, i1, i2⟩ := hI
      simp only [dnlt, cond_false]
      exact W_some ⟨i1, i2⟩
  · cases r9 with
    | inr r => exact W_some (fun h0 => absurd h0 h9)
    | inl u =>
      simp only [Sum.elim_inl]
      refine W_bind (Q' := Sum.elim (fun _ => True) (fun r : Int => r ≠ 0)) ?_ fun r21 h21 => ?_
      · refine W_loop (fun i s => s = (i : Int)) s.Guns.length rfl (fun i z hi hI => ?_) (fun z hI => ?_) (by omega)
        · subst hI
          simp only [dlt hi, dge, Bool.and_self, cond_true, Int.toNat_natCast, wrapC (show i < 9223372036854775807 by omega)]
          refine W_bind (Q' := fun _ => True) ?_ fun r13 _ => W_elim (fun _ => W_some (show (8 : Int) ≠ 0 by decide)) (fun p15 => ?_)
          · refine W_loop (fun i s => s = (i : Int)) s.Packs.length rfl (fun i z hi hI => ?_) (fun z hI => ?_) (by omega)
            · subst hI
              simp only [dlt hi, dge, Bool.and_self, cond_true, wrapC (show i < 9223372036854775807 by omega)]
              exact W_cond (fun _ => W_some trivial) (fun _ => W_some rfl)
            · subst hI
              simp only [dnlt, cond_false]
              exact W_some trivial
          · refine W_bind (Q' := fun _ => True) (W_cond (fun _ => W_some trivial) (fun _ => ?_)) fun r20 _ => W_cond (fun _ => W_some (show (8 : Int) ≠ 0 by decide)) (fun _ => W_some rfl)
            refine W_bind (Q' := fun _ => True) ?_ fun r17 _ => W_elim (fun _ => W_some trivial) (fun _ => W_some trivial)
            refine W_loop (fun i s => s = (i : Int)) s.Pipes.length rfl (fun i z hi hI => ?_) (fun z hI => ?_) (by omega)
            · subst hI
              simp only [dlt hi, dge, Bool.and_self, cond_true, wrapC (show i < 9223372036854775807 by omega)]
              exact W_cond (fun _ => W_some trivial) (fun _ => W_some rfl)
            · subst hI
              simp only [dnlt, cond_false]
              exact W_some trivial
        · subst hI
          simp only [dnlt, cond_false]
          exact W_some trivial
      · cases r21 with
        | inr r => exact W_some (fun h0 => absurd h0 h21)
        | inl u =>
          simp only [Sum.elim_inl, counters_eq, Option.bind_some, cond_or]
          refine W_cond (fun _ => W_some (fun h0 => by cases h0)) (fun hb => W_some (fun _ => ?_))
          simp only [Bool.or_eq_false_iff, Bool.not_eq_false', Bool.and_eq_true, decide_eq_true_eq] at hb
          exact ⟨by simpa using hp, q2 rfl, e2, e3, by simpa using h4', h9.1, h9.2, by omega, by omega⟩
/-! pumps for no flow -/
theorem flow_nn {l : List Pump} (hl : l.length ≤ 8) (hp : ∀ i, i < l.length → PumpOk (l.getD i z_Pump)) {c : List Int} (hc : c.length ≤ 900) : W (fun r : Int => 0 ≤ r) (pump_Flow N l c) := by
  unfold pump_Flow
  refine W_bind (Q' := fun r : Int => 0 ≤ r) ?_ fun r hr => W_some hr
  refine W_loop (fun i s => s.2 = (i : Int) ∧ 0 ≤ s.1 ∧ s.1 ≤ 1000000 * i) l.length ⟨rfl, by simp, by simp⟩ (fun i s hi hI => ?_) (fun s hI => ?_) (by omega)
  · obtain ⟨a, k⟩ := s
    obtain ⟨hk, ha, hb⟩ := hI
    simp only at hk ha hb
    subst hk
    have hpi := hp i hi
    unfold PumpOk at hpi
    simp only [dlt hi, dge, Bool.and_self, cond_true, Int.toNat_natCast, wrapC (show i < 9223372036854775807 by omega)]
    refine W_bind (contains_tot hN hc _) fun r _ => ?_
    rw [wrap64 (z := a + (l.getD i z_Pump).Flow) (by omega) (by omega)]
    exact W_bind (Q' := fun r : Int => 0 ≤ r ∧ r ≤ 1000000 * ((i : Int) + 1)) (W_cond (fun _ => W_some (by omega)) (fun _ => W_some (by omega))) fun r hr => W_some ⟨rfl, hr.1, by have := hr.2; simp only; omega⟩
  · obtain ⟨a, k⟩ := s
    obtain ⟨hk, ha, hb⟩ := hI
    simp only at hk ha
    subst hk
    simp only [dnlt, cond_false]
    exact W_some ha
theorem ppower_nn {l : List Pump} (hl : l.length ≤ 8) (hp : ∀ i, i < l.length → PumpOk (l.getD i z_Pump)) {c : List Int} (hc : c.length ≤ 900) : W (fun r : Int => 0 ≤ r ∧ (c = [] → r = 0)) (pump_Power N l c) := by
  unfold pump_Power
  refine W_bind (Q' := fun r : Int => 0 ≤ r ∧ (c = [] → r = 0)) ?_ fun r hr => W_some hr
  refine W_loop (fun i s => s.2 = (i : Int) ∧ (0 ≤ s.1 ∧ s.1 ≤ 100000000 * i) ∧ (c = [] → s.1 = 0)) l.length ⟨rfl, ⟨by simp, by simp⟩, fun _ => rfl⟩ (fun i s hi hI => ?_) (fun s hI => ?_) (by omega)
  · obtain ⟨a, k⟩ := s
    obtain ⟨hk, hab, hz⟩ := hI
    simp only at hk hab hz
    subst hk
    have hpi := hp i hi
    unfold PumpOk at hpi
    simp only [dlt hi, dge, Bool.and_self, cond_true, Int.toNat_natCast, wrapC (show i < 9223372036854775807 by omega)]
    have hcon : W (fun r => c = [] → r = false) (sl_Contains_int N c (i : Int)) := by
      by_cases hc0 : c = []
      · subst hc0
        obtain ⟨M, rfl⟩ : ∃ M, N = M + 1 := ⟨N - 1, by omega⟩
        exact ⟨false, rfl, fun _ => rfl⟩
      · exact W_mono (contains_tot hN hc _) fun r _ h => absurd h hc0
    refine W_bind hcon fun r hr => ?_
    rw [wrap64 (z := a + (l.getD i z_Pump).Power) (by omega) (by omega)]
    exact W_bind (Q' := fun r : Int => (0 ≤ r ∧ r ≤ 100000000 * ((i : Int) + 1)) ∧ (c = [] → r = 0)) (W_cond (fun hb => W_some ⟨by omega, fun h0 => by rw [hr h0] at hb; cases hb⟩) (fun _ => W_some ⟨by omega, hz⟩)) fun r hr => W_some ⟨rfl, ⟨hr.1.1, by have := hr.1.2; simp only; omega⟩, hr.2⟩
  · obtain ⟨a, k⟩ := s
    obtain ⟨hk, hab, hz⟩ := hI
    simp only at hk hab hz
    subst hk
    simp only [dnlt, cond_false]
    exact W_some ⟨hab.1, hz⟩
theorem members_zero : pump_members N 0 = some [] := by
  obtain ⟨M, rfl⟩ : ∃ M, N = M + 1 := ⟨N - 1, by omega⟩
  rfl
theorem best_zero {l : List Pump} (hl : l.length ≤ 8) (hp : ∀ i, i < l.length → PumpOk (l.getD i z_Pump)) : W (fun r : List Int × Int × Int => r.2.1 = 0 ∧ r.2.2 = 0) (pump_Best N l 0) := by
  unfold pump_Best
  have c0 : decide ((0 : Int) < 0) = false := by decide
  have c1 : decide ((l.length : Int) > 8) = false := by rw [decide_eq_false_iff_not]; omega
  have hp' : 2 ^ l.length - 1 < 256 := by
    have h8 : 2 ^ l.length ≤ 2 ^ 8 := Nat.pow_le_pow_right (by decide) hl
    have : 2 ^ 8 = 256 := by decide
    have : 0 < 2 ^ l.length := Nat.pow_pos (by decide)
    omega
  simp only [c0, c1, cond_false, shl_small hl]
  generalize 2 ^ l.length - 1 = a at hp'
  have hmem : ∀ i : Nat, i < 256 → W (fun r6 : List Int => r6.length ≤ 8 ∧ (i = 0 → r6 = [])) (pump_members N (i : Int)) := fun i hi => by
    by_cases hi0 : i = 0
    · subst hi0; exact ⟨[], members_zero hN, by simp, fun _ => rfl⟩
    · exact W_mono (members_tot hN hi) fun r hr => ⟨hr, fun h => absurd h hi0⟩
  refine W_bind (hmem a hp') fun r2 h2 => W_bind (flow_nn hN hl hp (by omega)) fun r3 h3 => W_cond (fun hb => ?_) (fun _ => W_bind (ppower_nn hN hl hp (by omega)) fun r4 h4 => ?_)
  · rw [decide_eq_true_eq] at hb; omega
  · refine W_bind (Q' := fun r : List Int × Int => r.2 = 0) ?_ fun r hr => W_some ⟨hr, rfl⟩
    refine W_loop (fun i s => s.2.2 = (i : Int) ∧ s.1.length ≤ 8 ∧ 0 ≤ s.2.1 ∧ (0 < i ∨ a = 0 → s.2.1 = 0)) a ⟨rfl, h2.1, h4.1, fun h => h4.2 (h2.2 (by omega))⟩ (fun i s hi hI => ?_) (fun s hI => ?_) (by omega)
    · obtain ⟨c, lp, k⟩ := s
      obtain ⟨hk, hc, h5, h6⟩ := hI
      simp only at hk hc h5 h6
      subst hk
      simp only [dlt hi, cond_true, wrapC (show i < 9223372036854775807 by omega)]
      refine W_bind (Q' := fun r : List Int × Int => r.1.length ≤ 8 ∧ r.2 = 0) ?_ fun r hr => W_some ⟨rfl, hr.1, by have := hr.2; simp only; omega, fun _ => hr.2⟩
      refine W_bind (hmem i (by omega)) fun r6 q6 => W_bind (flow_nn hN hl hp (by omega)) fun r7 q7 => W_cond (fun hb => by rw [decide_eq_true_eq] at hb; omega) (fun _ => W_bind (ppower_nn hN hl hp (by omega)) fun r8 q8 => ?_)
      have hb10 : W (fun b : Bool => (b = true → r8 ≤ lp) ∧ (b = false → lp ≤ r8)) (bif decide (r8 < lp) then some true else bif r8 == lp then (sl_Compare_int N r6 c).bind fun (r9 : Int) => some (decide (r9 < (0 : Int))) else some false) := by
        refine W_cond (fun hb => W_some ⟨fun _ => ?_, fun h => by cases h⟩) (fun hb => W_cond (fun he => W_bind (compare_tot hN (by omega)) fun r9 _ => W_some ⟨fun _ => ?_, fun _ => ?_⟩) (fun _ => W_some ⟨fun h => (by cases h), fun _ => ?_⟩))
        · rw [decide_eq_true_eq] at hb; omega
        · have := eq_of_beq he; omega
        · have := eq_of_beq he; omega
        · rw [decide_eq_false_iff_not] at hb; omega
      refine W_bind hb10 fun r10 q10 => W_bind (Q' := fun r : List Int × Int => r.1.length ≤ 8 ∧ r.2 = 0) (W_cond (fun hb => W_some ⟨q6.1, ?_⟩) (fun hb => W_some ⟨hc, ?_⟩)) fun r hr => W_some hr
      · have h9 := q10.1 hb
        simp only
        by_cases hi0 : i = 0
        · exact q8.2 (q6.2 hi0)
        · have := h6 (by omega)
          have := q8.1
          omega
      · have h9 := q10.2 hb
        simp only
        by_cases hi0 : i = 0
        · have := q8.2 (q6.2 hi0)
          omega
        · exact h6 (by omega)
    · obtain ⟨c, lp, k⟩ := s
      obtain ⟨hk, hc, h5, h6⟩ := hI
      simp only at hk h6
      subst hk
      simp only [dnlt, cond_false]
      exact W_some (h6 (by omega))
end
end Go.Proofs.YtkhkblihdabnoaaGreat

/- Snowmaking: a step in which no gun is on. No condition. -/
namespace Go.Proofs.YtkhkblihdabnoaaGreat
open Go.Cm Go.Proofs
def AllOff (l : List Gun) : Prop := ∀ g, g ∈ l → Gn.onB g = false
theorem off_nil {l : List Gun} (h : AllOff l) : l.filter Gn.onB = [] := by
  rw [List.filter_eq_nil_iff]
  intro g hg
  rw [h g hg]
  simp
theorem draws_off {l : List Gun} (h : AllOff l) (ks : List GunKind) (x : Int) : Gn.drawsS ks l x = [] := by unfold Gn.drawsS; rw [off_nil h]; rfl
theorem needs_off {l : List Gun} (h : AllOff l) (ks : List GunKind) : Gn.needsS ks l = [] := by unfold Gn.needsS; rw [off_nil h]; rfl
section
variable {N : Nat} (hN : 1000 < N)
include hN
theorem gpower_off {l : List Gun} (h : AllOff l) (hl : l.length ≤ 64) (ks : List GunKind) : gun_Power N ks l = some 0 := by
  unfold gun_Power
  refine (bindT (fun i => ((0 : Int), (i : Int))) rfl (0 : Int) l.length (show l.length < N by omega) (fun i hi => ?_) ?_).trans rfl
  · have ho : ((l.getD i z_Gun).State == 1) = false := h _ (getD_mem l i z_Gun hi)
    simp only [dlt hi, dge, Bool.and_self, cond_true, Int.toNat_natCast, ho, cond_false, Option.bind_some, wrapC (show i < 9223372036854775807 by omega)]
  · simp only [dnlt, cond_false]
theorem power_idle {s : SnowSystem} (h : Small s) (hr : RightOk N s) (ho : AllOff s.Guns) (x : Int) : snowmaking_Power N s x = some (0, 0) := by
  have h1 := h.guns
  have h2 := h.kinds
  unfold snowmaking_Power
  rw [Gn.draws_eq hN _ _ _ (by omega) (by omega), draws_off ho, Option.bind_some]
  obtain ⟨r, e, q⟩ := best_zero hN hr.pumps.1 hr.pumps.2
  refine (bindT (fun i => ((0 : Int), (i : Int))) rfl (0 : Int) 0 (show 0 < N by omega) (fun i hi => by omega) ?_).trans ?_
  · rfl
  · rw [e, gpower_off hN ho (by omega)]
    simp only [Option.bind_some, q.1, q.2, bne_self_eq_false, cond_false]
    rfl
theorem low_idle {l : List Pipe} (hl : l.length ≤ 900) (root : Int) : pipe_Low N l [] root [] = some [] := by
  suffices h : W (fun r : List Int => r = []) (pipe_Low N l [] root []) by
    obtain ⟨r, e, rfl⟩ := h
    exact e
  unfold pipe_Low
  have c1 : decide ((l.length : Int) ≤ (l.length : Int)) = true := by simp
  have c2 : decide ((l.length : Int) * 8 ≤ 140737488355328) = true := by rw [decide_eq_true_eq]; omega
  refine W_bind (flows_tot hN hl (d := []) (by simp)) fun r4 h4 => ?_
  simp only [c1, c2, Bool.and_self, cond_true, Option.bind_some, Int.toNat_natCast]
  have key : ∀ (r : Int) (p : List Int), p.length = l.length → r < (l.length : Int) → decide (r < 0) = false → (decide (0 ≤ r) && decide (r < (p.length : Int))) = true := fun r p hp hr h => by
    rw [decide_eq_false_iff_not] at h
    simp only [Bool.and_eq_true, decide_eq_true_eq]
    omega
  refine W_bind (Q' := fun r : List Int => r.length = l.length) ?_ fun r11 h11 => W_bind (Q' := fun r : List Int => r = []) ?_ fun r hr => W_some hr
  · refine W_loop (fun i s => s.1 = (i : Int) ∧ s.2.length = l.length) l.length ⟨rfl, by simp⟩ (fun i s hi hI => ?_) (fun s hI => ?_) (by omega)
    · obtain ⟨k, p⟩ := s
      obtain ⟨hk, hp⟩ := hI
      simp only at hk hp
      subst hk
      simp only [dlt hi, dge, dlt (show i < r4.length by omega), dlt (show i < p.length by omega), Bool.and_self, cond_true, wrapC (show i < 9223372036854775807 by omega), Option.bind_some]
      refine W_cond (fun _ => W_some ⟨rfl, by simp [hp]⟩) (fun _ => W_bind (find_tot hN hl _) fun r8 h8 => W_cond (fun _ => W_some ⟨rfl, by simp [hp]⟩) (fun h => ?_))
      simp only [key r8 p hp h8.2 h, cond_true]
      exact W_some ⟨rfl, by simp [hp]⟩
    · obtain ⟨k, p⟩ := s
      obtain ⟨hk, hp⟩ := hI
      simp only at hk hp
      subst hk
      simp only [dnlt, cond_false]
      exact W_some hp
  · refine W_loop (fun i s => s = ([], (0 : Int))) 0 rfl (fun i s hi hI => by omega) (fun s hI => ?_) (by omega)
    subst hI
    exact W_some rfl
theorem why_idle {s : SnowSystem} (h : Small s) (hr : RightOk N s) (ho : AllOff s.Guns) (x : Int) : snowmaking_Why N s x = some 0 := by
  have h1 := h.guns
  have h2 := h.kinds
  have h3 := h.pipes
  have h4 := hr.rest
  unfold snowmaking_Why
  rw [power_idle hN h hr ho x, Gn.draws_eq hN _ _ _ (by omega) (by omega), Gn.needs_eq hN _ _ (by omega) (by omega), draws_off ho, needs_off ho]
  have d1 : decide ((0 : Int) > s.Limit) = false := by rw [decide_eq_false_iff_not]; omega
  simp only [Option.bind_some, bne_self_eq_false, cond_false, d1, low_idle hN (show s.Pipes.length ≤ 900 by omega)]
  rfl
omit hN in
theorem make_zero {p : RunPack} (h : PackOk p) : snowpack_Make N p.Pack 0 = some (p.Pack, 0) := by
  unfold PackOk at h
  unfold snowpack_Make snowpack_within snowpack_add snowpack_water
  rw [packRight_eq]
  have e1 : (decide (0 ≤ p.Pack.Natural) && decide (p.Pack.Natural ≤ 20000) && (decide (0 ≤ p.Pack.Machine) && decide (p.Pack.Machine ≤ 20000) && (decide (50 ≤ p.Pack.Density) && decide (p.Pack.Density ≤ 900)))) = true := by
    simp only [Bool.and_eq_true, decide_eq_true_eq]; omega
  have e2 : decide (p.Pack.Machine > 20000) = false := by rw [decide_eq_false_iff_not]; omega
  have e3 : decide (IntKind.i64.wrap ((0 : Int) + 0) > 0) = false := by decide
  have e4 : IntKind.i64.wrap (p.Pack.Natural + 0) = p.Pack.Natural := by rw [wrap64 (by omega) (by omega)]; omega
  have e5 : IntKind.i64.wrap (p.Pack.Machine + 0) = p.Pack.Machine := by rw [wrap64 (by omega) (by omega)]; omega
  have e6 : decide ((0 : Int) ≤ 0) = true := by decide
  have e7 : decide ((0 : Int) ≤ 1000) = true := by decide
  simp only [e1, e2, e3, e4, e5, e6, e7, Option.bind_some, Bool.not_true, cond_false, cond_true]
omit hN in
theorem take0 {l : List Pond} (hN : 1000 < N) (hl : l.length ≤ 8) (ha : ∀ p, p ∈ l → Pn.PondOk p) : pond_Take N l 0 = some (l, 0) := by
  have hs : 0 ≤ Pn.spaI l := (Pn.sum_bound (fun p : Pond => p.Volume - p.Least) 1000000000 l (fun p hp => by have := ha p hp; unfold Pn.PondOk at this; omega)).1
  unfold pond_Take
  have c0 : decide ((0 : Int) < 0) = false := by decide
  have c1 : decide ((0 : Int) > Pn.spaI l) = false := by rw [decide_eq_false_iff_not]; omega
  simp only [c0, cond_false, Pn.spare_eq hN l hl ha, Option.bind_some, c1, Pn.clone_eq l (show l.length ≤ 900 by omega), beq_self_eq_true, cond_true]
theorem step_idle {s : SnowSystem} (h : Small s) (hr : RightOk N s) (ho : AllOff s.Guns) (x sec : Int) :
    W (fun r : SnowSystem × Int => (r.2 = 2 ∨ r.2 = 12) ∨ (r.2 = 0 ∧ 1 ≤ sec ∧ sec ≤ 3600 ∧ r.1 = SnowSystem.mk (s.Ponds.map (Pn.fillP sec)) s.Pumps s.Pipes s.Kinds s.Guns s.Packs s.Pressure s.Limit (IntKind.i64.wrap (s.Time + sec)) s.Water s.Lost s.Energy (IntKind.i64.wrap (s.Inflow + Pn.sumW s.Ponds sec)) ∧
      0 ≤ IntKind.i64.wrap (s.Inflow + Pn.sumW s.Ponds sec) ∧ IntKind.i64.wrap (s.Inflow + Pn.sumW s.Ponds sec) ≤ 1125899906842624)) (snowmaking_Step N s x sec) := by
  have hg := h.guns
  have hk := h.kinds
  have hpk := h.packs
  have hrest := hr.rest
  have hcnt := hr.count
  obtain ⟨hpl, _⟩ := (Pn.right_iff s.Ponds).1 hr.ponds
  have hpa := Pn.right_all hr.ponds
  have hs0 : 0 ≤ Pn.spaI s.Ponds := (Pn.sum_bound (fun p : Pond => p.Volume - p.Least) 1000000000 s.Ponds (fun p hp => by have := hpa p hp; unfold Pn.PondOk at this; omega)).1
  unfold snowmaking_Step
  simp only [cond_or, Option.bind_some]
  refine W_cond (fun _ => W_some (.inl (.inl rfl))) (fun hb => ?_)
  simp only [Bool.or_eq_false_iff, decide_eq_false_iff_not] at hb
  rw [why_idle hN h hr ho x, power_idle hN h hr ho x, copy_eq hN h, Pn.spare_eq hN s.Ponds hpl hpa]
  simp only [Option.bind_some, bne_self_eq_false, cond_false]
  refine W_bind (Q' := fun r : Int × (Int → Option Int) => r = (0, fun _ => none)) ⟨_, throughG (fun i => ((0 : Int), (i : Int), (fun _ => none : Int → Option Int))) ((0 : Int), (fun _ => none : Int → Option Int)) s.Guns.length (show s.Guns.length < N by omega) (fun i hi => ?_) ?_, rfl⟩ fun r10 h10 => ?_
  · have hd : gun_Draws N s.Kinds [s.Guns.getD i z_Gun] x = some [] := by
      rw [Gn.draws_eq hN _ _ _ (by omega) (by simp), draws_off (fun g hg' => by
        rw [List.mem_singleton] at hg'
        rw [hg']
        exact ho _ (getD_mem s.Guns i z_Gun hi))]
    simp only [dlt hi, dge, Bool.and_self, cond_true, Int.toNat_natCast, Option.bind_some, hd, wrapC (show i < 9223372036854775807 by omega)]
    refine (bindT (fun _ => ((0 : Int), (0 : Int), (fun _ => none : Int → Option Int))) rfl ((0 : Int), (fun _ => none : Int → Option Int)) 0 (show 0 < N by omega) (fun i hi => by omega) ?_).trans rfl
    rfl
  · simp only [dnlt, cond_false]
  · subst h10
    have d1 : decide ((0 : Int) > Pn.spaI s.Ponds) = false := by rw [decide_eq_false_iff_not]; omega
    have hf : pond_Fill N s.Ponds sec = some (s.Ponds.map (Pn.fillP sec), Pn.sumW s.Ponds sec, 0) := by
      rw [Pn.fill_eq hN s.Ponds sec hpl]
      unfold Pn.fillS
      have : (decide (sec < 0) || decide (sec > 86400)) = false := by simp only [Bool.or_eq_false_iff, decide_eq_false_iff_not]; omega
      rw [this]; rfl
    have wz : IntKind.i64.wrap ((0 : Int) * sec) = 0 := by rw [Int.zero_mul]; decide
    have we : IntKind.i64.wrap (s.Energy + 0) = s.Energy := by rw [wrap64 (by omega) (by omega)]; omega
    have ww : IntKind.i64.wrap (s.Water + 0) = s.Water := by rw [wrap64 (by omega) (by omega)]; omega
    simp only [d1, cond_false, take0 hN hpl hpa, Option.bind_some, bne_self_eq_false, hf, wz, we, ww]
    refine W_bind (Q' := fun r => r = Sum.inl (z_SnowSystem, SnowSystem.mk (s.Ponds.map (Pn.fillP sec)) s.Pumps s.Pipes s.Kinds s.Guns [] s.Pressure s.Limit s.Time s.Water s.Lost s.Energy (IntKind.i64.wrap (s.Inflow + Pn.sumW s.Ponds sec)), s.Packs))
      ⟨_, throughG (fun i => ((i : Int), z_SnowSystem, SnowSystem.mk (s.Ponds.map (Pn.fillP sec)) s.Pumps s.Pipes s.Kinds s.Guns [] s.Pressure s.Limit s.Time s.Water s.Lost s.Energy (IntKind.i64.wrap (s.Inflow + Pn.sumW s.Ponds sec)), s.Packs)) _ s.Packs.length (show s.Packs.length < N by omega) (fun i hi => ?_) ?_, rfl⟩ fun r19 h19 => ?_
    · have hp := hr.packs i hi
      have ha : ((s.Packs.getD i z_RunPack).Area != 0) = true := by unfold PackOk at hp; rw [bne_iff_ne]; omega
      have hmm : min (1000 : Int) (IntKind.i64.wrap (((none : Option Int).getD 0).tdiv (s.Packs.getD i z_RunPack).Area)) = 0 := by
        have : ((none : Option Int).getD 0).tdiv (s.Packs.getD i z_RunPack).Area = 0 := Int.zero_tdiv _
        rw [this]
        decide
      have hll : IntKind.i64.wrap (s.Lost + IntKind.i64.wrap ((none : Option Int).getD 0 - IntKind.i64.wrap (0 * (s.Packs.getD i z_RunPack).Area))) = s.Lost := by
        rw [Int.zero_mul]
        have : IntKind.i64.wrap ((none : Option Int).getD 0 - IntKind.i64.wrap 0) = 0 := by decide
        rw [this, wrap64 (by omega) (by omega)]
        omega
      have hset : s.Packs.set i (RunPack.mk (s.Packs.getD i z_RunPack).Run (s.Packs.getD i z_RunPack).Area (s.Packs.getD i z_RunPack).Pack) = s.Packs := by
        refine list_ext z_RunPack (by simp) fun j hj => ?_
        rw [getD_set _ _ _ _ _ hi]
        by_cases hij : i = j
        · rw [if_pos hij, ← hij]
        · rw [if_neg hij]
      simp only [dlt hi, dge, Bool.and_self, cond_true, Int.toNat_natCast, ha, hmm, make_zero hp, Option.bind_some, bne_self_eq_false, cond_false, hset, hll, wrapC (show i < 9223372036854775807 by omega)]
    · simp only [dnlt, cond_false]
    · subst h19
      simp only [Sum.elim_inl, counters_eq, Option.bind_some]
      refine W_cond (fun _ => W_some (.inl (.inr rfl))) (fun hc => W_some (.inr ⟨rfl, by omega, by omega, rfl, ?_⟩))
      simp only [Bool.not_eq_false', Bool.and_eq_true, decide_eq_true_eq] at hc
      omega
end
end Go.Proofs.YtkhkblihdabnoaaGreat

/- Snowmaking: what Take and Fill of the ponds do (taken out of the texts on ponds, without the references). No condition. -/
namespace Go.Proofs.YtkhkblihdabnoaaGreat.Pn
open Go.Cm Go.Proofs
set_option linter.unusedSectionVars false
def fillI (p : Pond) (t : Int) : Int := min (p.Inflow * t / 3600) (p.Most - p.Volume)
theorem fill_i {p : Pond} (h : PondOk p) {t : Int} (h0 : 0 ≤ t) (h1 : t ≤ 86400) : fillW p t = fillI p t := by
  unfold PondOk at h
  have k1 : 0 ≤ p.Inflow * t := Int.mul_nonneg (by omega) h0
  have k2 : p.Inflow * t ≤ 10000000 * 86400 := Int.mul_le_mul (by omega) h1 h0 (by omega)
  unfold fillW fillI
  rw [wrap64 (z := p.Inflow * t) (by omega) (by omega), Int.tdiv_eq_ediv_of_nonneg k1, wrap64 (z := p.Inflow * t / 3600) (by omega) (by omega), wrap64 (by omega) (by omega)]
theorem fillI_bound {p : Pond} (h : PondOk p) {t : Int} (h0 : 0 ≤ t) : 0 ≤ fillI p t ∧ fillI p t ≤ p.Most - p.Volume := by
  unfold PondOk at h
  have k1 : 0 ≤ p.Inflow * t := Int.mul_nonneg (by omega) h0
  have k2 : 0 ≤ p.Inflow * t / 3600 := Int.ediv_nonneg k1 (by omega)
  unfold fillI
  omega
theorem sumW_eq {l : List Pond} (hl : l.length ≤ 8) (h : ∀ p, p ∈ l → PondOk p) {t : Int} (h0 : 0 ≤ t) (h1 : t ≤ 86400) : sumW l t = (l.map fun p => fillI p t).sum := by
  have key : ∀ i, i ≤ l.length → sumW (l.take i) t = ((l.take i).map fun p => fillI p t).sum := by
    intro i
    induction i with
    | zero => intro _; rfl
    | succ i ih =>
      intro hi
      have hp := h _ (getD_mem l i z_Pond hi)
      have hf := fillI_bound hp h0
      have hb := sum_bound (fun p : Pond => fillI p t) 1000000000 (l.take i) (fun p hp' => by
        have h2 := h p (List.mem_of_mem_take hp')
        have h3 := fillI_bound h2 h0
        unfold PondOk at h2
        omega)
      have hlen : (l.take i).length ≤ 8 := by simp; omega
      unfold PondOk at hp
      rw [sumW_step l t i hi, ih (by omega), fill_i (h _ (getD_mem l i z_Pond hi)) h0 h1, sum_step (fun p => fillI p t) l z_Pond i hi, wrap64 (by omega) (by omega)]
  have := key l.length (Nat.le_refl _)
  rwa [List.take_length] at this
theorem fillP_vol {p : Pond} (h : PondOk p) {t : Int} (h0 : 0 ≤ t) (h1 : t ≤ 86400) : (fillP t p).Volume = p.Volume + fillI p t := by
  have hb := fillI_bound h h0
  unfold fillP
  rw [fill_i h h0 h1]
  unfold PondOk at h
  exact wrap64 (by omega) (by omega)
theorem wrapU {z : Int} (h1 : 0 ≤ z) (h2 : z < 18446744073709551616) : IntKind.u64.wrap z = z := by
  show (let m := z % (2 ^ 64 : Int); if false && m ≥ (2 ^ 63 : Int) then m - (2 ^ 64 : Int) else m) = z
  simp only [Bool.false_and, Bool.false_eq_true, if_false]
  omega
theorem shr32 {x : Int} (h : 0 ≤ x) : shrI IntKind.u64 x 32 = x / 4294967296 := by
  show x.fdiv (2 ^ 32) = _
  rw [Int.fdiv_eq_ediv_of_nonneg _ (by decide)]
  rfl
theorem and32 {x : Int} (h1 : 0 ≤ x) (h2 : x < 18446744073709551616) : andI IntKind.u64 x 4294967295 = x % 4294967296 := by
  obtain ⟨n, rfl⟩ : ∃ n : Nat, x = n := ⟨x.toNat, by omega⟩
  show IntKind.u64.wrap ((BitVec.ofInt 64 (n : Int) &&& BitVec.ofInt 64 4294967295).toNat : Int) = _
  have e1 : (BitVec.ofInt 64 (n : Int)).toNat = n := by
    rw [BitVec.toNat_ofInt]
    have : ((n : Int) % ((2 ^ 64 : Nat) : Int)).toNat = n := by
      have : ((2 ^ 64 : Nat) : Int) = 18446744073709551616 := by decide
      rw [this]
      omega
    exact this
  have e2 : (BitVec.ofInt 64 4294967295).toNat = 2 ^ 32 - 1 := by decide
  rw [BitVec.toNat_and, e1, e2, Nat.and_two_pow_sub_one_eq_mod, wrapU (by omega) (by omega)]
  omega
theorem mul_small {x y : Int} (hx0 : 0 ≤ x) (hx1 : x < 18446744073709551616) (hy0 : 0 ≤ y) (hy1 : y < 18446744073709551616) (h : x * y < 18446744073709551616) {N : Nat} : bits_Mul64 N x y = some (0, x * y) := by
  unfold bits_Mul64
  rw [shr32 hx0, shr32 hy0, and32 hx0 hx1, and32 hy0 hy1]
  obtain ⟨x1, hx1'⟩ : ∃ z, x / 4294967296 = z := ⟨_, rfl⟩
  obtain ⟨x0, hx0'⟩ : ∃ z, x % 4294967296 = z := ⟨_, rfl⟩
  obtain ⟨y1, hy1'⟩ : ∃ z, y / 4294967296 = z := ⟨_, rfl⟩
  obtain ⟨y0, hy0'⟩ : ∃ z, y % 4294967296 = z := ⟨_, rfl⟩
  rw [hx1', hx0', hy1', hy0']
  have bx1 : 0 ≤ x1 ∧ x1 ≤ 4294967295 := by omega
  have bx0 : 0 ≤ x0 ∧ x0 ≤ 4294967295 := by omega
  have by1 : 0 ≤ y1 ∧ y1 ≤ 4294967295 := by omega
  have by0 : 0 ≤ y0 ∧ y0 ≤ 4294967295 := by omega
  have key : ∀ {u v : Int}, (0 ≤ u ∧ u ≤ 4294967295) → (0 ≤ v ∧ v ≤ 4294967295) → 0 ≤ u * v ∧ u * v ≤ 18446744065119617025 := fun hu hv =>
    ⟨Int.mul_nonneg hu.1 hv.1, Int.le_trans (Int.mul_le_mul hu.2 hv.2 hv.1 (by omega)) (by decide)⟩
  have ha := key bx0 by0
  have hb := key bx0 by1
  have hc := key bx1 by0
  have hd := key bx1 by1
  have hxy : x * y = (x1 * y1) * 18446744073709551616 + (x0 * y1 + x1 * y0) * 4294967296 + x0 * y0 := by
    have e1 : x = 4294967296 * x1 + x0 := by omega
    have e2 : y = 4294967296 * y1 + y0 := by omega
    have m1 : (4294967296 * x1) * (4294967296 * y1) = 18446744073709551616 * (x1 * y1) := by
      rw [Int.mul_assoc, Int.mul_left_comm x1 4294967296 y1, ← Int.mul_assoc]
      rfl
    have m2 : (4294967296 * x1) * y0 = 4294967296 * (x1 * y0) := Int.mul_assoc ..
    have m3 : x0 * (4294967296 * y1) = 4294967296 * (x0 * y1) := Int.mul_left_comm ..
    rw [e1, e2, Int.add_mul, Int.mul_add, Int.mul_add, m1, m2, m3]
    omega
  have hnn : 0 ≤ x * y := Int.mul_nonneg hx0 hy0
  rw [hxy] at h hnn
  rw [hxy]
  generalize x0 * y0 = a at *
  generalize x0 * y1 = b at *
  generalize x1 * y0 = c at *
  generalize x1 * y1 = d at *
  have w1 : IntKind.u64.wrap a = a := wrapU (by omega) (by omega)
  have w2 : IntKind.u64.wrap b = b := wrapU (by omega) (by omega)
  have w3 : IntKind.u64.wrap c = c := wrapU (by omega) (by omega)
  have w4 : IntKind.u64.wrap d = d := wrapU (by omega) (by omega)
  rw [w1, w2, w3, w4, shr32 (x := a) (by omega)]
  have w5 : IntKind.u64.wrap (c + a / 4294967296) = c + a / 4294967296 := wrapU (by omega) (by omega)
  rw [w5, shr32 (x := c + a / 4294967296) (by omega), and32 (by omega) (by omega)]
  have w6 : IntKind.u64.wrap ((c + a / 4294967296) % 4294967296 + b) = (c + a / 4294967296) % 4294967296 + b := wrapU (by omega) (by omega)
  rw [w6, shr32 (x := (c + a / 4294967296) % 4294967296 + b) (by omega)]
  have w7 : IntKind.u64.wrap (d + (c + a / 4294967296) / 4294967296) = d + (c + a / 4294967296) / 4294967296 := wrapU (by omega) (by omega)
  rw [w7]
  have w8 : d + (c + a / 4294967296) / 4294967296 + ((c + a / 4294967296) % 4294967296 + b) / 4294967296 = 0 := by omega
  rw [w8, wrapU (z := 0) (by omega) (by omega), wrapU (z := d * 18446744073709551616 + (b + c) * 4294967296 + a) hnn h]
theorem exact_eq {N : Nat} {a w s : Int} (ha : 0 ≤ a) (ha' : a ≤ 1099511627776) (hw : 0 ≤ w) (hw' : w ≤ 1000000000) (hs : 0 < s) (hs' : s ≤ 64000000000) (h : a * w < 9223372036854775808) : split_exact N a w s = some (a * w / s, a * w % s) := by
  unfold split_exact
  have hnn : 0 ≤ a * w := Int.mul_nonneg ha hw
  rw [wrapU (z := a) ha (by omega), wrapU (z := w) hw (by omega), wrapU (z := s) (by omega) (by omega), mul_small ha (by omega) hw (by omega) (by omega), Option.bind_some]
  unfold bits_Div64
  have e1 : (s == 0) = false := by rw [beq_eq_false_iff_ne]; omega
  have e2 : decide (s ≤ 0) = false := by rw [decide_eq_false_iff_not]; omega
  have e3 : (s != 0) = true := by rw [bne_iff_ne]; omega
  have hq : 0 ≤ a * w / s := Int.ediv_nonneg hnn (by omega)
  have hq2 : a * w / s ≤ a * w := Int.ediv_le_self _ hnn
  have hm := Int.emod_nonneg (a * w) (show s ≠ 0 by omega)
  have hm2 := Int.emod_lt_of_pos (a * w) hs
  simp only [e1, e2, e3, cond_false, cond_true, Option.bind_some, beq_self_eq_true, Int.tdiv_eq_ediv_of_nonneg hnn, Int.tmod_eq_emod_of_nonneg hnn]
  rw [wrapU (z := a * w / s) hq (by omega), wrap64 (z := a * w / s) (by omega) (by omega), wrap64 (z := a * w % s) (by omega) (by omega)]
def innerB (N : Nat) (rs : List Int) (a0 : Int) : Int × List Int → Option ((Int × List Int) ⊕ List Int) :=
  (fun (p23 : Int × List Int) => (bif decide (p23.fst > a0) then bif decide ((0 : Int) ≤ p23.fst) && decide (p23.fst < (↑(List.length p23.snd) : Int)) then bif decide ((0 : Int) ≤ IntKind.i64.wrap (p23.fst - (1 : Int))) && decide (IntKind.i64.wrap (p23.fst - (1 : Int)) < (↑(List.length p23.snd) : Int)) then bif decide ((0 : Int) ≤ List.getD p23.snd (IntKind.i64.wrap (p23.fst - (1 : Int))).toNat (0 : Int)) && decide (List.getD p23.snd (IntKind.i64.wrap (p23.fst - (1 : Int))).toNat (0 : Int) < (↑(List.length rs) : Int)) then bif decide ((0 : Int) ≤ List.getD p23.snd (Int.toNat p23.fst) (0 : Int)) && decide (List.getD p23.snd (Int.toNat p23.fst) (0 : Int) < (↑(List.length rs) : Int)) then (cmp_Compare_int_ N (List.getD rs (List.getD p23.snd (IntKind.i64.wrap (p23.fst - (1 : Int))).toNat (0 : Int)).toNat (0 : Int)) (List.getD rs (List.getD p23.snd (Int.toNat p23.fst) (0 : Int)).toNat (0 : Int))).bind fun (r24 : Int) => some (decide (r24 < (0 : Int))) else none else none else none else none else some false).bind fun (r25 : Bool) => bif r25 then bif decide ((0 : Int) ≤ IntKind.i64.wrap (p23.fst - (1 : Int))) && decide (IntKind.i64.wrap (p23.fst - (1 : Int)) < (↑(List.length p23.snd) : Int)) then bif decide ((0 : Int) ≤ p23.fst) && decide (p23.fst < (↑(List.length p23.snd) : Int)) then bif decide ((0 : Int) ≤ p23.fst) && decide (p23.fst < (↑(List.length p23.snd) : Int)) then (some (List.set p23.snd (Int.toNat p23.fst) (List.getD p23.snd (IntKind.i64.wrap (p23.fst - (1 : Int))).toNat (0 : Int)))).bind fun (r26 : List Int) => bif decide ((0 : Int) ≤ IntKind.i64.wrap (p23.fst - (1 : Int))) && decide (IntKind.i64.wrap (p23.fst - (1 : Int)) < (↑r26.length : Int)) then (some (r26.set (IntKind.i64.wrap (p23.fst - (1 : Int))).toNat (List.getD p23.snd (Int.toNat p23.fst) (0 : Int)))).bind fun (r27 : List Int) => some (Sum.inl (IntKind.i64.wrap (p23.fst - (1 : Int)), r27)) else none else none else none else none else some (Sum.inr p23.snd))
def idx (n : Nat) : List Int := (List.range n).map fun i : Nat => (i : Int)
theorem idx_len (n : Nat) : (idx n).length = n := by simp [idx]
theorem idx_succ (n : Nat) : idx (n + 1) = idx n ++ [(n : Int)] := by simp [idx, List.range_succ]
theorem idx_get {n i : Nat} (h : i < n) : (idx n).getD i 0 = (i : Int) := by
  simp [idx, List.getD, h]
theorem idx_mem {n : Nat} {v : Int} : v ∈ idx n ↔ 0 ≤ v ∧ v < n := by
  simp only [idx, List.mem_map, List.mem_range]
  constructor
  · rintro ⟨i, h, rfl⟩; omega
  · rintro ⟨h1, h2⟩; exact ⟨v.toNat, by omega, by omega⟩
theorem idx_nodup (n : Nat) : (idx n).Nodup := by
  unfold idx
  rw [List.nodup_iff_pairwise_ne, List.pairwise_map]
  refine List.Pairwise.imp ?_ (List.nodup_iff_pairwise_ne.1 List.nodup_range)
  intro a b h e
  exact h (by omega)
theorem idx_drop {n k : Nat} (h : k < n) : (idx n).drop k = (k : Int) :: (idx n).drop (k + 1) := by
  have hk : k < (idx n).length := by rw [idx_len]; exact h
  rw [List.drop_eq_getElem_cons hk]
  congr 1
  have := idx_get h
  simpa [List.getD, List.getElem?_eq_getElem hk] using this
def rat (rs : List Int) (v : Int) : Int := rs.getD v.toNat 0
def ltR (rs : List Int) (v u : Int) : Prop := rat rs u < rat rs v ∨ (rat rs v = rat rs u ∧ v < u)
theorem getD_mid {α : Type} (P : List α) (y : α) (R : List α) (d : α) : (P ++ y :: R).getD P.length d = y := by simp [List.getD]
theorem getD_mid2 {α : Type} (P : List α) (y x : α) (R : List α) (d : α) : (P ++ y :: x :: R).getD (P.length + 1) d = x := by simp [List.getD, List.getElem?_append]
theorem swap_mid {α : Type} : ∀ (P : List α) (y x : α) (R : List α), ((P ++ y :: x :: R).set (P.length + 1) y).set P.length x = P ++ x :: y :: R
  | [], _, _, _ => rfl
  | p :: P, y, x, R => by
    have := swap_mid P y x R
    simp only [List.cons_append, List.length_cons, List.set_cons_succ, this]
def insL (A : List Int) (x : Int) (B : List Int) (j : Nat) : List Int := A.take j ++ x :: (A.drop j ++ B)
theorem cmp_eq {N : Nat} (a b : Int) : (cmp_Compare_int_ N a b).bind (fun r => some (decide (r < (0 : Int)))) = some (decide (a < b)) := by
  unfold cmp_Compare_int_ cmp_isNaN_int_
  have h1 : (a != a) = false := by simp
  have h2 : (b != b) = false := by simp
  simp only [h1, h2, Option.bind_some, cond_false]
  by_cases h : a < b
  · simp [h]
  · by_cases h3 : a > b <;> simp [h, h3]
section
variable {N : Nat} (hN : 1000 < N)
include hN
theorem inner_spec {rs A B : List Int} {x : Int} {n : Nat} (hrs : rs.length = n) (hn : n ≤ 8) (hA : ∀ y, y ∈ A → 0 ≤ y ∧ y < n) (hx : 0 ≤ x ∧ x < n) (hAl : A.length ≤ 8) :
    ∃ j, j ≤ A.length ∧ whileF N (innerB N rs 0) ((A.length : Int), A ++ x :: B) = some (insL A x B j) ∧ (∀ y, y ∈ A.drop j → rat rs y < rat rs x) ∧ (j = 0 ∨ rat rs x ≤ rat rs (A.getD (j - 1) 0)) := by
  suffices h : ∃ r, whileF N (innerB N rs 0) ((A.length : Int), A ++ x :: B) = some r ∧ ∃ j, j ≤ A.length ∧ r = insL A x B j ∧ (∀ y, y ∈ A.drop j → rat rs y < rat rs x) ∧ (j = 0 ∨ rat rs x ≤ rat rs (A.getD (j - 1) 0)) by
    obtain ⟨r, h1, j, h2, h3, h4, h5⟩ := h
    exact ⟨j, h2, by rw [h1, h3], h4, h5⟩
  refine whileF_inv
    (fun m s => ∃ j, j + m = A.length ∧ s = ((j : Int), insL A x B j) ∧ ∀ y, y ∈ A.drop j → rat rs y < rat rs x)
    (fun r => ∃ j, j ≤ A.length ∧ r = insL A x B j ∧ (∀ y, y ∈ A.drop j → rat rs y < rat rs x) ∧ (j = 0 ∨ rat rs x ≤ rat rs (A.getD (j - 1) 0))) A.length
    ⟨A.length, by omega, by simp [insL], fun y hy => by simp at hy⟩ (fun m s hm hI => ?_) (fun s hI => ?_) (by omega)
  · obtain ⟨j, hj, rfl, hd⟩ := hI
    obtain ⟨j', rfl⟩ : ∃ j', j = j' + 1 := ⟨j - 1, by omega⟩
    have hj' : j' < A.length := by omega
    obtain ⟨y, hy⟩ : ∃ y, A.getD j' 0 = y := ⟨_, rfl⟩
    have hyA : y ∈ A := by rw [← hy]; exact getD_mem A j' 0 hj'
    have hyb := hA y hyA
    have hdr : A.drop j' = y :: A.drop (j' + 1) := by
      rw [List.drop_eq_getElem_cons hj', ← hy]
      simp [List.getD, List.getElem?_eq_getElem hj']
    have hdat : insL A x B (j' + 1) = A.take j' ++ y :: x :: (A.drop (j' + 1) ++ B) := by
      unfold insL
      rw [take_getD A j' 0 hj', hy, List.append_assoc]
      rfl
    have hdat2 : insL A x B j' = A.take j' ++ x :: y :: (A.drop (j' + 1) ++ B) := by
      unfold insL
      rw [hdr]
      rfl
    have htl : (A.take j').length = j' := by simp; omega
    have hlen : j' + 1 < (insL A x B (j' + 1)).length := by rw [hdat]; simp; omega
    have g1 : (insL A x B (j' + 1)).getD j' 0 = y := by
      rw [hdat]
      have := getD_mid (A.take j') y (x :: (A.drop (j' + 1) ++ B)) 0
      rwa [htl] at this
    have g2 : (insL A x B (j' + 1)).getD (j' + 1) 0 = x := by
      rw [hdat]
      have := getD_mid2 (A.take j') y x (A.drop (j' + 1) ++ B) 0
      rwa [htl] at this
    have g3 : ((insL A x B (j' + 1)).set (j' + 1) y).set j' x = insL A x B j' := by
      rw [hdat, hdat2]
      have := swap_mid (A.take j') y x (A.drop (j' + 1) ++ B)
      rwa [htl] at this
    have c1 : decide (((j' + 1 : Nat) : Int) > 0) = true := by simp
    have c2 : decide (0 ≤ y) = true := by simp; omega
    have c3 : decide (y < (n : Int)) = true := by simp; omega
    have c4 : decide (0 ≤ x) = true := by simp; omega
    have c5 : decide (x < (n : Int)) = true := by simp; omega
    have hbody : innerB N rs 0 (((j' + 1 : Nat) : Int), insL A x B (j' + 1)) = bif decide (rat rs y < rat rs x) then some (.inl ((j' : Int), insL A x B j')) else some (.inr (insL A x B (j' + 1))) := by
      unfold innerB
      simp only [c1, cond_true, dge, dlt hlen, dlt (show j' < (insL A x B (j' + 1)).length by omega), Bool.and_self, wrapS (show j' < 9223372036854775807 by omega), Int.toNat_natCast, g1, g2, c2, c3, c4, c5, hrs, cmp_eq, Option.bind_some, List.length_set, g3]
      rfl
    rw [hbody]
    by_cases hc : rat rs y < rat rs x
    · left
      refine ⟨_, by simp only [hc, decide_true, cond_true], j', by omega, rfl, fun z hz => ?_⟩
      rw [hdr] at hz
      rcases List.mem_cons.1 hz with rfl | hz
      · exact hc
      · exact hd z hz
    · right
      refine ⟨_, by simp only [hc, decide_false, cond_false], j' + 1, by omega, rfl, hd, .inr ?_⟩
      rw [Nat.add_sub_cancel, hy]
      omega
  · obtain ⟨j, hj, rfl, hd⟩ := hI
    have : j = 0 := by omega
    subst this
    refine ⟨insL A x B 0, ?_, 0, by omega, rfl, hd, .inl rfl⟩
    unfold innerB
    rfl
def outerB (N : Nat) (rs : List Int) (m : Nat) : Int × List Int → Option ((Int × List Int) ⊕ List Int) := fun p22 =>
  bif decide (p22.fst < (m : Int)) then (whileF N (innerB N rs 0) p22).bind fun (r28 : List Int) => some (Sum.inl (IntKind.i64.wrap (p22.fst + (1 : Int)), r28)) else some (Sum.inr p22.snd)
def Sorted (rs : List Int) (n : Nat) (o : List Int) : Prop := o.Perm (idx n) ∧ o.Pairwise (ltR rs)
theorem sort_spec {rs : List Int} {n : Nat} (hrs : rs.length = n) (hn : n ≤ 8) : ∃ o, whileF N (outerB N rs n) (1, idx n) = some o ∧ Sorted rs n o := by
  by_cases h0 : n = 0
  · subst h0
    obtain ⟨M, rfl⟩ : ∃ M, N = M + 1 := ⟨N - 1, by omega⟩
    exact ⟨[], rfl, .refl _, .nil⟩
  · refine whileF_inv (fun i s => s.1 = ((i + 1 : Nat) : Int) ∧ ∃ A, s.2 = A ++ (idx n).drop (i + 1) ∧ Sorted rs (i + 1) A) (Sorted rs n) (n - 1) ⟨rfl, [0], ?_, .refl _, by simp⟩ (fun i s hi hI => .inl ?_) (fun s hI => ?_) (by omega)
    · have := idx_drop (n := n) (k := 0) (by omega)
      simpa using this
    · obtain ⟨k, d⟩ := s
      obtain ⟨hk, A, hd, hp, hw⟩ := hI
      simp only at hk hd
      subst hk
      subst hd
      have hAl : A.length = i + 1 := by rw [hp.length_eq, idx_len]
      have hA : ∀ y, y ∈ A → 0 ≤ y ∧ y < ((i + 1 : Nat) : Int) := fun y hy => idx_mem.1 (hp.mem_iff.1 hy)
      obtain ⟨j, hj, h1, h2, h3⟩ := inner_spec hN (rs := rs) (A := A) (B := (idx n).drop (i + 2)) (x := ((i + 1 : Nat) : Int)) hrs hn (fun y hy => by have := hA y hy; omega) (by omega) (by omega)
      rw [hAl] at h1
      refine ⟨(((i + 1 + 1 : Nat) : Int), insL A ((i + 1 : Nat) : Int) ((idx n).drop (i + 2)) j), ?_, rfl, A.take j ++ ((i + 1 : Nat) : Int) :: A.drop j, by simp [insL], ?_, ?_⟩
      · unfold outerB
        rw [idx_drop (show i + 1 < n by omega)]
        have e : decide ((((i + 1 : Nat) : Int), A ++ ((i + 1 : Nat) : Int) :: (idx n).drop (i + 1 + 1)).fst < (n : Int)) = true := by simp only [decide_eq_true_eq]; omega
        simp only [e, cond_true]
        rw [h1, Option.bind_some, wrapC (show i + 1 < 9223372036854775807 by omega)]
      · refine List.perm_middle.trans ?_
        rw [List.take_append_drop, idx_succ (i + 1)]
        exact (List.Perm.cons _ hp).trans (List.perm_append_singleton _ _).symm
      · have hw' := hw
        rw [← List.take_append_drop j A, List.pairwise_append] at hw'
        obtain ⟨w1, w2, w3⟩ := hw'
        rw [List.pairwise_append, List.pairwise_cons]
        refine ⟨w1, ⟨fun y hy => .inl (h2 y hy), w2⟩, fun u hu v hv => ?_⟩
        rcases List.mem_cons.1 hv with rfl | hv
        · -- before the new one
          have hult := hA u (List.mem_of_mem_take hu)
          have hge : rat rs ((i + 1 : Nat) : Int) ≤ rat rs u := by
            rcases h3 with rfl | h3
            · simp at hu
            · by_cases hj0 : j = 0
              · subst hj0; simp at hu
              · obtain ⟨j', rfl⟩ : ∃ j', j = j' + 1 := ⟨j - 1, by omega⟩
                rw [Nat.add_sub_cancel] at h3
                rw [take_getD A j' 0 (by omega)] at hu w1
                rcases List.mem_append.1 hu with hu | hu
                · have := (List.pairwise_append.1 w1).2.2 u hu (A.getD j' 0) (List.mem_singleton.2 rfl)
                  rcases this with h | h <;> omega
                · rw [List.mem_singleton] at hu
                  rw [hu]; exact h3
          by_cases heq : rat rs u = rat rs ((i + 1 : Nat) : Int)
          · exact .inr ⟨heq, hult.2⟩
          · exact .inl (by omega)
        · exact w3 u hu v hv
    · obtain ⟨k, d⟩ := s
      obtain ⟨hk, A, hd, hS⟩ := hI
      simp only at hk hd
      subst hk
      subst hd
      have e1 : n - 1 + 1 = n := by omega
      rw [e1] at hS ⊢
      have e2 : (idx n).drop n = [] := by rw [List.drop_eq_nil_iff, idx_len]; exact Nat.le_refl _
      rw [e2, List.append_nil]
      refine ⟨A, ?_, hS⟩
      unfold outerB
      simp only [dnlt, cond_false]
end
theorem sum_set : ∀ (l : List Int) (i : Nat) (x : Int), i < l.length → (l.set i x).sum = l.sum - l.getD i 0 + x
  | [], _, _, h => by simp at h
  | y :: l, 0, x, _ => by simp; omega
  | y :: l, i + 1, x, h => by
    have := sum_set l i x (by simpa using h)
    simp only [List.set_cons_succ, List.sum_cons, this, List.getD_cons_succ]
    omega
def inc1 (ps : List Int) (v : Int) : List Int := ps.set v.toNat (IntKind.i64.wrap (ps.getD v.toNat 0 + 1))
def incs (q : List Int) (T : List Int) : List Int := T.foldl inc1 q
theorem incs_step (q T : List Int) (k : Nat) (hk : k < T.length) : incs q (T.take (k + 1)) = inc1 (incs q (T.take k)) (T.getD k 0) := by
  unfold incs
  rw [take_getD T k 0 hk, List.foldl_append]
  rfl
theorem incs_len (q T : List Int) : (incs q T).length = q.length := by
  unfold incs
  induction T generalizing q with
  | nil => rfl
  | cons v T ih => rw [List.foldl_cons, ih]; simp [inc1]
theorem mem_set {α : Type} {l : List α} {i : Nat} {x y : α} (h : y ∈ l.set i x) : y = x ∨ y ∈ l := by
  rcases List.mem_or_eq_of_mem_set h with h | h
  · exact .inr h
  · exact .inl h
theorem incs_spec : ∀ (T q : List Int) (B : Int), (∀ x, x ∈ q → 0 ≤ x ∧ x ≤ B) → (∀ v, v ∈ T → 0 ≤ v ∧ v < q.length) → 0 ≤ B → B + T.length ≤ 4611686018427387904 → (incs q T).sum = q.sum + T.length ∧ ∀ x, x ∈ incs q T → 0 ≤ x ∧ x ≤ B + T.length
  | [], q, B, hq, _, _, _ => ⟨by simp [incs], fun x hx => by simpa using hq x hx⟩
  | v :: T, q, B, hq, hT, hB, hlim => by
    have hv := hT v (List.mem_cons_self ..)
    have hvl : v.toNat < q.length := by omega
    have hqv := hq _ (getD_mem q v.toNat 0 hvl)
    simp only [List.length_cons] at hlim ⊢
    have hw : IntKind.i64.wrap (q.getD v.toNat 0 + 1) = q.getD v.toNat 0 + 1 := wrap64 (by omega) (by omega)
    have hs : inc1 q v = q.set v.toNat (q.getD v.toNat 0 + 1) := by unfold inc1; rw [hw]
    obtain ⟨h1, h2⟩ := incs_spec T (inc1 q v) (B + 1) (fun x hx => by
      rw [hs] at hx
      rcases mem_set hx with rfl | hx
      · omega
      · have := hq x hx; omega) (fun u hu => by have := hT u (List.mem_cons_of_mem _ hu); simp only [inc1, List.length_set]; exact this) (by omega) (by omega)
    have e : incs q (v :: T) = incs (inc1 q v) T := rfl
    rw [e]
    refine ⟨?_, fun x hx => by have := h2 x hx; omega⟩
    rw [h1, hs, sum_set _ _ _ hvl]
    omega
theorem incs_get : ∀ (T q : List Int) (B : Int), (∀ x, x ∈ q → 0 ≤ x ∧ x ≤ B) → (∀ v, v ∈ T → 0 ≤ v ∧ v < q.length) → 0 ≤ B → B + T.length ≤ 4611686018427387904 → T.Nodup → ∀ i : Nat, i < q.length → (incs q T).getD i 0 = q.getD i 0 + bif T.contains (i : Int) then 1 else 0
  | [], q, B, _, _, _, _, _, i, _ => by simp [incs]
  | v :: T, q, B, hq, hT, hB, hlim, hnd, i, hi => by
    have hv := hT v (List.mem_cons_self ..)
    have hvl : v.toNat < q.length := by omega
    have hqv := hq _ (getD_mem q v.toNat 0 hvl)
    simp only [List.length_cons] at hlim
    have hw : IntKind.i64.wrap (q.getD v.toNat 0 + 1) = q.getD v.toNat 0 + 1 := wrap64 (by omega) (by omega)
    have hs : inc1 q v = q.set v.toNat (q.getD v.toNat 0 + 1) := by unfold inc1; rw [hw]
    rw [List.nodup_cons] at hnd
    have ih := incs_get T (inc1 q v) (B + 1) (fun x hx => by
      rw [hs] at hx
      rcases mem_set hx with rfl | hx
      · omega
      · have := hq x hx; omega) (fun u hu => by have := hT u (List.mem_cons_of_mem _ hu); simp only [inc1, List.length_set]; exact this) (by omega) (by omega) hnd.2 i (by simp only [inc1, List.length_set]; exact hi)
    have e : incs q (v :: T) = incs (inc1 q v) T := rfl
    rw [e, ih, hs, getD_set _ _ _ _ _ hvl]
    by_cases hiv : v.toNat = i
    · rw [if_pos hiv]
      have h1 : (v :: T).contains (i : Int) = true := by simp; omega
      have h2 : T.contains (i : Int) = false := by
        rw [List.contains_eq_mem, decide_eq_false_iff_not]
        intro h
        have : (i : Int) = v := by omega
        rw [this] at h
        exact hnd.1 h
      rw [h1, h2, cond_true, cond_false, hiv]
      omega
    · rw [if_neg hiv]
      have : (v :: T).contains (i : Int) = T.contains (i : Int) := by
        rw [List.contains_cons]
        have : ((i : Int) == v) = false := by rw [beq_eq_false_iff_ne]; omega
        rw [this, Bool.false_or]
      rw [this]
def qF (a S w : Int) : Int := a * w / S
def rF (a S w : Int) : Int := a * w % S
structure Good (a : Int) (ws : List Int) : Prop where
  len : ws.length ≤ 8
  wt : ∀ w, w ∈ ws → 0 ≤ w ∧ w ≤ 1000000000
  pos : 0 < a
  le : a ≤ ws.sum
theorem sum_ge (l : List Int) (h : ∀ w, w ∈ l → 0 ≤ w) : 0 ≤ l.sum ∧ ∀ w, w ∈ l → w ≤ l.sum := by
  induction l with
  | nil => exact ⟨by simp, fun w hw => by simp at hw⟩
  | cons y l ih =>
    have h1 := h y (List.mem_cons_self ..)
    obtain ⟨h2, h3⟩ := ih fun w hw => h w (List.mem_cons_of_mem _ hw)
    refine ⟨by simp only [List.sum_cons]; omega, fun w hw => ?_⟩
    simp only [List.sum_cons]
    rcases List.mem_cons.1 hw with rfl | hw
    · omega
    · have := h3 w hw; omega
section
variable {a : Int} {ws : List Int} (g : Good a ws)
include g
theorem Good.sum : ws.sum ≤ 8000000000 ∧ 0 < ws.sum ∧ a ≤ 8000000000 ∧ ∀ w, w ∈ ws → w ≤ ws.sum := by
  have h1 := sum_bound (fun w : Int => w) 1000000000 ws g.wt
  have h2 := g.len
  have h3 := g.pos
  have h4 := g.le
  simp only [List.map_id'] at h1
  exact ⟨by omega, by omega, by omega, (sum_ge ws fun w hw => (g.wt w hw).1).2⟩
theorem Good.q {w : Int} (hw : w ∈ ws) : 0 ≤ qF a ws.sum w ∧ qF a ws.sum w ≤ a ∧ 0 ≤ rF a ws.sum w ∧ rF a ws.sum w < ws.sum ∧ a * w < 9223372036854775808 := by
  obtain ⟨h1, h2, h3, h4⟩ := g.sum
  have hb := g.wt w hw
  have hp := g.pos
  have hm : 0 ≤ a * w := Int.mul_nonneg (by omega) hb.1
  have hm2 : a * w ≤ a * ws.sum := Int.mul_le_mul_of_nonneg_left (h4 w hw) (by omega)
  have hm3 : a * w ≤ 8000000000 * 1000000000 := Int.mul_le_mul h3 hb.2 hb.1 (by omega)
  refine ⟨Int.ediv_nonneg hm (by omega), ?_, Int.emod_nonneg _ (by omega), Int.emod_lt_of_pos _ h2, by omega⟩
  have := Int.ediv_le_ediv h2 hm2
  rwa [Int.mul_ediv_cancel _ (show ws.sum ≠ 0 by omega)] at this
omit g in
theorem parts_sum (S : Int) (l : List Int) : a * l.sum = S * (l.map (qF a S)).sum + (l.map (rF a S)).sum := by
  induction l with
  | nil => simp
  | cons w l ih =>
    have e := Int.mul_ediv_add_emod (a * w) S
    simp only [List.map_cons, List.sum_cons, Int.mul_add, ih, qF, rF]
    omega
theorem Good.left : 0 ≤ a - (ws.map (qF a ws.sum)).sum ∧ a - (ws.map (qF a ws.sum)).sum < ws.length ∧ ws.sum * (a - (ws.map (qF a ws.sum)).sum) = (ws.map (rF a ws.sum)).sum := by
  obtain ⟨h1, h2, h3, h4⟩ := g.sum
  have hp := parts_sum (a := a) ws.sum ws
  have hr := sum_bound (rF a ws.sum) (ws.sum - 1) ws (fun w hw => by have := g.q hw; omega)
  have hn : 0 < ws.length := by
    cases ws with
    | nil => simp at h2
    | cons => simp
  generalize hQ : (ws.map (qF a ws.sum)).sum = Q at *
  generalize hR : (ws.map (rF a ws.sum)).sum = R at *
  have e1 : ws.sum * (a - Q) = R := by rw [Int.mul_sub, Int.mul_comm ws.sum a]; omega
  have e2 : (ws.sum - 1) * (ws.length : Int) = ws.sum * ws.length - ws.length := by rw [Int.sub_mul, Int.one_mul]
  refine ⟨?_, ?_, e1⟩
  · apply Int.not_lt.1
    intro hlt
    have : ws.sum * (a - Q) ≤ ws.sum * (-1) := Int.mul_le_mul_of_nonneg_left (by omega) (by omega)
    omega
  · apply Int.not_le.1
    intro hle
    have : ws.sum * (ws.length : Int) ≤ ws.sum * (a - Q) := Int.mul_le_mul_of_nonneg_left hle (by omega)
    omega
end
theorem getD_q (a S : Int) (ws : List Int) (i : Nat) (hi : i < ws.length) (f : Int → Int) : (ws.map f).getD i 0 = f (ws.getD i 0) := getD_map f ws i 0 0 hi
section
variable {N : Nat} (hN : 1000 < N)
include hN
theorem check_eq {a : Int} {ws : List Int} (g : Good a ws) : split_check N a ws = some (ws.sum, 0) := by
  obtain ⟨h1, h2, h3, h4⟩ := g.sum
  have hl := g.len
  have hp := g.pos
  unfold split_check
  have c1 : decide ((ws.length : Int) > 64) = false := by rw [decide_eq_false_iff_not]; omega
  have c2 : decide (a < 0) = false := by rw [decide_eq_false_iff_not]; omega
  have c3 : decide (a > 1099511627776) = false := by rw [decide_eq_false_iff_not]; omega
  simp only [c1, c2, c3, cond_false, cond_or, Bool.or_self, Option.bind_some]
  rw [through () ws.length (by omega) (fun i hi => ?_) (by simp)]
  · simp only [Option.bind_some, Sum.elim_inl]
    refine (bindT (fun i => ((ws.take i).sum, (i : Int))) rfl (Sum.inl ws.sum) ws.length (show ws.length < N by omega) (fun i hi => ?_) ?_).trans ?_
    · have hw := g.wt _ (getD_mem ws i 0 hi)
      have hb := sum_bound (fun x : Int => x) 1000000000 (ws.take i) (fun x hx => g.wt x (List.mem_of_mem_take hx))
      have hs := sum_step (fun x : Int => x) ws 0 i hi
      simp only [List.map_id'] at hb hs
      have hlen : (ws.take i).length ≤ 8 := by simp; omega
      have hplus : split_plus N (ws.take i).sum (ws.getD i 0) = some ((ws.take i).sum + ws.getD i 0, true) := by
        unfold split_plus
        rw [wrap64 (z := 1099511627776 - (ws.take i).sum) (by omega) (by omega), wrap64 (z := -1099511627776 - (ws.take i).sum) (by omega) (by omega), wrap64 (by omega) (by omega)]
        have d1 : decide (ws.getD i 0 > 1099511627776 - (ws.take i).sum) = false := by rw [decide_eq_false_iff_not]; omega
        have d2 : decide (ws.getD i 0 < -1099511627776 - (ws.take i).sum) = false := by rw [decide_eq_false_iff_not]; omega
        simp only [d1, d2, cond_false, Option.bind_some]
      simp only [dlt hi, dge, Bool.and_self, cond_true, Int.toNat_natCast, split_check_1, Option.bind_some, hplus, Bool.not_true, cond_false, wrapC (show i < 9223372036854775807 by omega), hs]
    · simp only [dnlt, cond_false, List.take_length]
    · have : (ws.sum == 0) = false := by rw [beq_eq_false_iff_ne]; omega
      simp only [Sum.elim_inl, this, cond_false]
  · have hw := g.wt _ (getD_mem ws i 0 hi)
    have d1 : decide (ws.getD i 0 < 0) = false := by rw [decide_eq_false_iff_not]; omega
    have d2 : decide (ws.getD i 0 > 1000000000) = false := by rw [decide_eq_false_iff_not]; omega
    simp only [dlt hi, dge, Bool.and_self, cond_true, Int.toNat_natCast, d1, d2, cond_false, Option.bind_some, Bool.or_self, wrapN (show i < 9223372036854775807 by omega)]
end
theorem sorted_facts {rs : List Int} {n : Nat} {o : List Int} (h : Sorted rs n o) : o.length = n ∧ (∀ v, v ∈ o → 0 ≤ v ∧ v < n) ∧ o.Nodup :=
  ⟨by rw [h.1.length_eq, idx_len], fun v hv => idx_mem.1 (h.1.mem_iff.1 hv), h.1.nodup_iff.2 (idx_nodup n)⟩
theorem mixd_at {α : Type} {t l : List α} (h : t.length = l.length) {i : Nat} (hi : i < l.length) (d : α) : (mixd t l (i + 1)).getD i d = t.getD i d := by
  have : (t.take (i + 1)).length = i + 1 := by simp; omega
  have h2 : i < t.length := by omega
  simp [mixd, List.getD, List.getElem?_append, this, List.getElem?_take, List.getElem?_eq_getElem h2]
section
variable {N : Nat} (hN : 1000 < N) {a : Int} {ws : List Int} (g : Good a ws)
include hN g
theorem split_eq {o : List Int} (ho : whileF N (outerB N (ws.map (rF a ws.sum)) ws.length) (1, idx ws.length) = some o) (hS : Sorted (ws.map (rF a ws.sum)) ws.length o) :
    split_Split N a ws = some (incs (ws.map (qF a ws.sum)) (o.take (a - (ws.map (qF a ws.sum)).sum).toNat), 0) := by
  obtain ⟨h1, h2, h3, h4⟩ := g.sum
  have hl := g.len
  have hp := g.pos
  obtain ⟨L1, L2, L3⟩ := g.left
  obtain ⟨o1, o2, o3⟩ := sorted_facts hS
  unfold split_Split
  have c1 : decide ((ws.length : Int) ≤ (ws.length : Int)) = true := by simp
  have c2 : decide ((ws.length : Int) * 8 ≤ 140737488355328) = true := by rw [decide_eq_true_eq]; omega
  simp only [check_eq hN g, Option.bind_some, bne_self_eq_false, cond_false, c1, c2, Bool.and_self, cond_true, Int.toNat_natCast]
  have hz : (List.replicate ws.length (0 : Int)).length = ws.length := List.length_replicate
  have m1 : (ws.map (qF a ws.sum)).length = (List.replicate ws.length (0 : Int)).length := by simp
  have m2 : (ws.map (rF a ws.sum)).length = (List.replicate ws.length (0 : Int)).length := by simp
  have m3 : (idx ws.length).length = (List.replicate ws.length (0 : Int)).length := by rw [idx_len, hz]
  refine (bindT (fun i => (a - ((ws.take i).map (qF a ws.sum)).sum, (i : Int), mixd (ws.map (qF a ws.sum)) (List.replicate ws.length 0) i, mixd (ws.map (rF a ws.sum)) (List.replicate ws.length 0) i, mixd (idx ws.length) (List.replicate ws.length 0) i)) ?_
    (a - (ws.map (qF a ws.sum)).sum, ws.map (qF a ws.sum), ws.map (rF a ws.sum), idx ws.length) ws.length (show ws.length < N by omega) (fun i hi => ?_) ?_).trans ?_
  · simp [mixd_zero]
  · have hi' : i < (List.replicate ws.length (0 : Int)).length := by rw [hz]; exact hi
    have hw := getD_mem ws i 0 hi
    have hq := g.q hw
    have hb := g.wt _ hw
    have hsb := sum_bound (qF a ws.sum) 8000000000 (ws.take i) (fun w hw => by have := g.q (List.mem_of_mem_take hw); omega)
    have hlen : (ws.take i).length ≤ 8 := by simp; omega
    have hex : split_exact N a (ws.getD i 0) ws.sum = some (qF a ws.sum (ws.getD i 0), rF a ws.sum (ws.getD i 0)) := exact_eq (by omega) (by omega) hb.1 hb.2 h2 (by omega) hq.2.2.2.2
    have e1 : (mixd (ws.map (qF a ws.sum)) (List.replicate ws.length 0) i).set i (qF a ws.sum (ws.getD i 0)) = mixd (ws.map (qF a ws.sum)) (List.replicate ws.length 0) (i + 1) := mixd_set m1 hi' _ 0 (getD_map _ ws i 0 0 hi).symm
    have e2 : (mixd (ws.map (rF a ws.sum)) (List.replicate ws.length 0) i).set i (rF a ws.sum (ws.getD i 0)) = mixd (ws.map (rF a ws.sum)) (List.replicate ws.length 0) (i + 1) := mixd_set m2 hi' _ 0 (getD_map _ ws i 0 0 hi).symm
    have e3 : (mixd (idx ws.length) (List.replicate ws.length 0) i).set i (i : Int) = mixd (idx ws.length) (List.replicate ws.length 0) (i + 1) := mixd_set m3 hi' _ 0 (idx_get hi).symm
    have e4 : (mixd (ws.map (qF a ws.sum)) (List.replicate ws.length 0) (i + 1)).getD i 0 = qF a ws.sum (ws.getD i 0) := (mixd_at m1 hi' 0).trans (getD_map _ ws i 0 0 hi)
    simp only [dlt hi, dge, Bool.and_self, cond_true, Int.toNat_natCast, hex, Option.bind_some, mixd_len m1, mixd_len m2, mixd_len m3, dlt hi', e1, e2, e3, e4, wrapC (show i < 9223372036854775807 by omega), sum_step (qF a ws.sum) ws 0 i hi]
    rw [wrap64 (by omega) (by omega)]
    congr 3
    omega
  · have x1 := mixd_all m1
    have x2 := mixd_all m2
    have x3 := mixd_all m3
    rw [hz] at x1 x2 x3
    simp only [dnlt, cond_false, List.take_length, x1, x2, x3]
  · simp only [idx_len]
    refine (bindT (fun _ => ((0 : Int), (20 : Int), idx ws.length)) rfl ((0 : Int), idx ws.length) 0 (show 0 < N by omega) (fun i hi => by omega) ?_).trans ?_
    · have : decide ((20 : Int) ≤ (ws.length : Int)) = false := by rw [decide_eq_false_iff_not]; omega
      simp only [this, cond_false]
    · have w1 : IntKind.i64.wrap ((0 : Int) + 1) = 1 := by decide
      simp only [w1]
      refine (bind_while (r0 := o) ho).trans ?_
      refine (bindT (fun _ => ((20 : Int), o)) rfl o 0 (show 0 < N by omega) (fun i hi => by omega) ?_).trans ?_
      · have : decide ((20 : Int) < (ws.length : Int)) = false := by rw [decide_eq_false_iff_not]; omega
        simp only [this, cond_false]
      · obtain ⟨lf, hlf⟩ : ∃ lf : Nat, a - (ws.map (qF a ws.sum)).sum = lf := ⟨(a - (ws.map (qF a ws.sum)).sum).toNat, by omega⟩
        simp only [hlf, Int.toNat_natCast, o1, dge]
        rw [hlf] at L2
        have d1 : decide ((lf : Int) ≤ (ws.length : Int)) = true := by rw [decide_eq_true_eq]; omega
        have htl : (o.take lf).length = lf := by simp; omega
        simp only [d1, Bool.and_self, cond_true, htl]
        refine (bindT (fun k => ((k : Int), incs (ws.map (qF a ws.sum)) ((o.take lf).take k))) rfl (incs (ws.map (qF a ws.sum)) (o.take lf)) lf (show lf < N by omega) (fun k hk => ?_) ?_).trans rfl
        · have hk' : k < (o.take lf).length := by rw [htl]; exact hk
          have hv := o2 _ (List.mem_of_mem_take (getD_mem (o.take lf) k 0 hk'))
          have f1 : decide (0 ≤ (o.take lf).getD k 0) = true := by rw [decide_eq_true_eq]; omega
          have f2 : decide ((o.take lf).getD k 0 < (ws.length : Int)) = true := by rw [decide_eq_true_eq]; omega
          simp only [dlt hk, dge, Bool.and_self, cond_true, Int.toNat_natCast, incs_len, List.length_map, f1, f2, Option.bind_some, wrapC (show k < 9223372036854775807 by omega)]
          rw [incs_step _ _ k hk']
          rfl
        · have : (o.take lf).take lf = o.take lf := by rw [List.take_take, Nat.min_self]
          simp only [dnlt, cond_false, this]
theorem split_one : ∃ o, Sorted (ws.map (rF a ws.sum)) ws.length o ∧ split_Split N a ws = some (incs (ws.map (qF a ws.sum)) (o.take (a - (ws.map (qF a ws.sum)).sum).toNat), 0) := by
  obtain ⟨o, ho, hS⟩ := sort_spec hN (rs := ws.map (rF a ws.sum)) (n := ws.length) (by simp) g.len
  exact ⟨o, hS, split_eq hN g ho hS⟩
end
theorem perm_sum {l1 l2 : List Int} (h : l1.Perm l2) : l1.sum = l2.sum := by
  induction h with
  | nil => rfl
  | cons x _ ih => simp [ih]
  | swap x y l => simp only [List.sum_cons]; omega
  | trans _ _ h1 h2 => exact h1.trans h2
theorem idx_map (rs : List Int) : (idx rs.length).map (rat rs) = rs := by
  refine list_ext 0 (by rw [List.length_map, idx_len]) fun i hi => ?_
  rw [List.length_map, idx_len] at hi
  rw [getD_map (rat rs) (idx rs.length) i 0 0 (by rw [idx_len]; exact hi), idx_get hi]
  unfold rat
  rw [Int.toNat_natCast]
section
variable {a : Int} {ws : List Int} (g : Good a ws) {o : List Int} (hS : Sorted (ws.map (rF a ws.sum)) ws.length o)
def partsOf (a : Int) (ws o : List Int) : List Int := incs (ws.map (qF a ws.sum)) (o.take (a - (ws.map (qF a ws.sum)).sum).toNat)
include g hS
theorem top_pos {v : Int} (hv : v ∈ o.take (a - (ws.map (qF a ws.sum)).sum).toNat) : 0 < rat (ws.map (rF a ws.sum)) v := by
  obtain ⟨h1, h2, h3, h4⟩ := g.sum
  obtain ⟨L1, L2, L3⟩ := g.left
  obtain ⟨o1, o2, o3⟩ := sorted_facts hS
  obtain ⟨lf, hlf⟩ : ∃ lf : Nat, a - (ws.map (qF a ws.sum)).sum = lf := ⟨(a - (ws.map (qF a ws.sum)).sum).toNat, by omega⟩
  rw [hlf] at hv L2 L3
  rw [Int.toNat_natCast] at hv
  have hr : ∀ u, u ∈ o → 0 ≤ rat (ws.map (rF a ws.sum)) u ∧ rat (ws.map (rF a ws.sum)) u ≤ ws.sum - 1 := fun u hu => by
    have hb := o2 u hu
    unfold rat
    rw [getD_map _ ws u.toNat 0 0 (by omega)]
    have := g.q (getD_mem ws u.toNat 0 (by omega))
    omega
  apply Int.not_le.1
  intro hle
  obtain ⟨m, hm, hvm⟩ := mem_getD 0 hv
  have htl : (o.take lf).length = lf := by simp; omega
  rw [htl] at hm
  rw [getD_take _ _ _ _ hm] at hvm
  have hmo : m < o.length := by omega
  have hsplit : o = o.take m ++ v :: o.drop (m + 1) := by
    conv => lhs; rw [← List.take_append_drop m o]
    rw [List.drop_eq_getElem_cons hmo, ← hvm]
    simp [List.getD, List.getElem?_eq_getElem hmo]
  have hpw := hS.2
  rw [hsplit, List.pairwise_append, List.pairwise_cons] at hpw
  have hsum : (ws.map (rF a ws.sum)).sum = (o.map (rat (ws.map (rF a ws.sum)))).sum := by
    have e1 := idx_map (ws.map (rF a ws.sum))
    have e2 := perm_sum (hS.1.map (rat (ws.map (rF a ws.sum))))
    rw [e2]
    have e3 : idx ws.length = idx (ws.map (rF a ws.sum)).length := by rw [List.length_map]
    rw [e3, e1]
  have hzero : ((v :: o.drop (m + 1)).map (rat (ws.map (rF a ws.sum)))).sum ≤ 0 := by
    have := sum_bound (rat (ws.map (rF a ws.sum))) 0 (v :: o.drop (m + 1)) (fun u hu => by
      have huo : u ∈ o := by rw [hsplit]; exact List.mem_append_right _ hu
      have := hr u huo
      rcases List.mem_cons.1 hu with rfl | hu
      · omega
      · have := hpw.2.1.1 u hu
        unfold ltR at this
        omega)
    omega
  have htake := sum_bound (rat (ws.map (rF a ws.sum))) (ws.sum - 1) (o.take m) (fun u hu => hr u (List.mem_of_mem_take hu))
  have hml : (o.take m).length = m := by simp; omega
  rw [hml] at htake
  rw [hsplit, List.map_append, List.sum_append] at hsum
  have e5 : ws.sum * (lf : Int) = ws.sum * (m : Int) + ws.sum * ((lf : Int) - m) := by rw [← Int.mul_add]; congr 1; omega
  have e6 : (ws.sum - 1) * (m : Int) = ws.sum * m - m := by rw [Int.sub_mul, Int.one_mul]
  have e7 : ws.sum * 1 ≤ ws.sum * ((lf : Int) - m) := Int.mul_le_mul_of_nonneg_left (by omega) (by omega)
  omega
theorem parts_facts : (partsOf a ws o).length = ws.length ∧ (partsOf a ws o).sum = a ∧ ∀ i, i < ws.length → (∃ b : Bool, (partsOf a ws o).getD i 0 = qF a ws.sum (ws.getD i 0) + (bif b then 1 else 0) ∧ (b = true → 0 < rF a ws.sum (ws.getD i 0))) ∧
    0 ≤ (partsOf a ws o).getD i 0 ∧ (partsOf a ws o).getD i 0 ≤ ws.getD i 0 := by
  obtain ⟨h1, h2, h3, h4⟩ := g.sum
  have hl := g.len
  have hle := g.le
  obtain ⟨L1, L2, L3⟩ := g.left
  obtain ⟨o1, o2, o3⟩ := sorted_facts hS
  have hqb : ∀ x, x ∈ ws.map (qF a ws.sum) → 0 ≤ x ∧ x ≤ 8000000000 := fun x hx => by
    obtain ⟨w, hw, rfl⟩ := List.mem_map.1 hx
    have := g.q hw
    omega
  have hT : ∀ v, v ∈ o.take (a - (ws.map (qF a ws.sum)).sum).toNat → 0 ≤ v ∧ v < ((ws.map (qF a ws.sum)).length : Int) := fun v hv => by rw [List.length_map]; exact o2 v (List.mem_of_mem_take hv)
  have htl : (o.take (a - (ws.map (qF a ws.sum)).sum).toNat).length = (a - (ws.map (qF a ws.sum)).sum).toNat := by simp; omega
  have hlim : (8000000000 : Int) + ((o.take (a - (ws.map (qF a ws.sum)).sum).toNat).length : Int) ≤ 4611686018427387904 := by rw [htl]; omega
  refine ⟨by unfold partsOf; rw [incs_len, List.length_map], ?_, fun i hi => ?_⟩
  · unfold partsOf
    rw [(incs_spec _ _ 8000000000 hqb hT (by omega) hlim).1, htl]
    omega
  · have hw := getD_mem ws i 0 hi
    have hq := g.q hw
    have hget := incs_get _ _ 8000000000 hqb hT (by omega) hlim (o3.sublist (List.take_sublist _ _)) i (by rw [List.length_map]; exact hi)
    rw [getD_map _ ws i 0 0 hi] at hget
    have hgp : (partsOf a ws o).getD i 0 = qF a ws.sum (ws.getD i 0) + bif (o.take (a - (ws.map (qF a ws.sum)).sum).toNat).contains (i : Int) then 1 else 0 := hget
    have hpos : (o.take (a - (ws.map (qF a ws.sum)).sum).toNat).contains (i : Int) = true → 0 < rF a ws.sum (ws.getD i 0) := fun hc => by
      have := top_pos g hS (v := (i : Int)) (by simpa using hc)
      unfold rat at this
      rwa [Int.toNat_natCast, getD_map _ ws i 0 0 hi] at this
    have hdiv : ws.sum * qF a ws.sum (ws.getD i 0) + rF a ws.sum (ws.getD i 0) = a * ws.getD i 0 := Int.mul_ediv_add_emod _ _
    have hwb := g.wt _ hw
    have hmul : a * ws.getD i 0 ≤ ws.sum * ws.getD i 0 := Int.mul_le_mul_of_nonneg_right hle hwb.1
    have hqw : ∀ z : Int, ws.sum * z ≤ ws.sum * ws.getD i 0 → z ≤ ws.getD i 0 := fun z hz => Int.le_of_mul_le_mul_left hz h2
    refine ⟨⟨_, hgp, hpos⟩, ?_, ?_⟩
    · rw [hgp]
      cases (o.take (a - (ws.map (qF a ws.sum)).sum).toNat).contains (i : Int)
      · rw [cond_false]; omega
      · rw [cond_true]; omega
    · rw [hgp]
      cases hc : (o.take (a - (ws.map (qF a ws.sum)).sum).toNat).contains (i : Int) with
      | false =>
        rw [cond_false, Int.add_zero]
        exact hqw _ (by omega)
      | true =>
        have hp := hpos hc
        rw [cond_true]
        have h5 : qF a ws.sum (ws.getD i 0) < ws.getD i 0 := Int.lt_of_mul_lt_mul_left (a := ws.sum) (by omega) (by omega)
        omega
end
def wsOf (l : List Pond) : List Int := l.map fun p => p.Volume - p.Least
def takeP (p : Pond) (n : Int) : Pond := Pond.mk p.ID (IntKind.i64.wrap (p.Volume - n)) p.Least p.Most p.Inflow
def takeL (l : List Pond) (ps : List Int) : List Pond := l.zipWith takeP ps
theorem take_get {l : List Pond} {ps : List Int} {i : Nat} (h1 : i < l.length) (h2 : i < ps.length) : (takeL l ps).getD i z_Pond = takeP (l.getD i z_Pond) (ps.getD i 0) := by
  simp [takeL, List.getD, List.getElem?_zipWith, List.getElem?_eq_getElem h1, List.getElem?_eq_getElem h2]
theorem take_len {l : List Pond} {ps : List Int} (h : ps.length = l.length) : (takeL l ps).length = l.length := by simp [takeL, h]
theorem good_of {l : List Pond} (hl : l.length ≤ 8) (h : ∀ p, p ∈ l → PondOk p) {x : Int} (h0 : 0 < x) (h1 : x ≤ spaI l) : Good x (wsOf l) :=
  ⟨by simp [wsOf, hl], fun w hw => by
    obtain ⟨p, hp, rfl⟩ := List.mem_map.1 hw
    have := h p hp
    unfold PondOk at this
    omega, h0, h1⟩
section
variable {N : Nat} (hN : 1000 < N) {l : List Pond} (hl : l.length ≤ 8) (h : ∀ p, p ∈ l → PondOk p)
include hN hl h
theorem take_some {x : Int} (hx : 0 < x) (h1 : x ≤ spaI l) : ∃ o, Sorted ((wsOf l).map (rF x (wsOf l).sum)) (wsOf l).length o ∧ pond_Take N l x = some (takeL l (partsOf x (wsOf l) o), 0) := by
  have g := good_of hl h hx h1
  obtain ⟨o, hS, e1⟩ := split_one hN g
  have hpf := parts_facts g hS
  have hwl : (wsOf l).length = l.length := by simp [wsOf]
  have hpl : (partsOf x (wsOf l) o).length = l.length := by rw [hpf.1, hwl]
  have e1' : split_Split N x (wsOf l) = some (partsOf x (wsOf l) o, 0) := e1
  have c0 : decide (x < 0) = false := by rw [decide_eq_false_iff_not]; omega
  have c1 : decide (x > spaI l) = false := by rw [decide_eq_false_iff_not]; omega
  have c2 : (x == 0) = false := by rw [beq_eq_false_iff_ne]; omega
  have c3 : decide (x > 0) = true := by rw [decide_eq_true_eq]; omega
  have d1 : decide ((l.length : Int) ≤ (l.length : Int)) = true := by simp
  have d2 : decide ((l.length : Int) * 8 ≤ 140737488355328) = true := by rw [decide_eq_true_eq]; omega
  refine ⟨o, hS, ?_⟩
  · unfold pond_Take
    simp only [c0, cond_false, spare_eq hN l hl h, Option.bind_some, c1, clone_eq l (show l.length ≤ 900 by omega), c2, d1, d2, Bool.and_self, cond_true, Int.toNat_natCast]
    have m1 : (wsOf l).length = (List.replicate l.length (0 : Int)).length := by rw [hwl, List.length_replicate]
    refine (bindT (fun i => ((i : Int), mixd (wsOf l) (List.replicate l.length 0) i)) (by simp [mixd_zero]) (wsOf l) l.length (show l.length < N by omega) (fun i hi => ?_) ?_).trans ?_
    · have hi' : i < (List.replicate l.length (0 : Int)).length := by rw [List.length_replicate]; exact hi
      have hp := h _ (getD_mem l i z_Pond hi)
      unfold PondOk at hp
      have hw : IntKind.i64.wrap ((l.getD i z_Pond).Volume - (l.getD i z_Pond).Least) = (wsOf l).getD i 0 := by
        rw [wrap64 (by omega) (by omega)]; exact (getD_map (fun p : Pond => p.Volume - p.Least) l i z_Pond 0 hi).symm
      simp only [dlt hi, dge, Bool.and_self, cond_true, Int.toNat_natCast, mixd_len m1, dlt hi', Option.bind_some, hw, wrapC (show i < 9223372036854775807 by omega)]
      rw [mixd_set m1 hi' _ 0 rfl]
    · have := mixd_all m1
      rw [List.length_replicate] at this
      simp only [dnlt, cond_false, this]
    · simp only [e1', Option.bind_some, bne_self_eq_false, cond_false, hpl]
      have m2 : (takeL l (partsOf x (wsOf l) o)).length = l.length := take_len hpl
      refine (bindT (fun i => ((i : Int), mixd (takeL l (partsOf x (wsOf l) o)) l i)) (by simp [mixd_zero]) (takeL l (partsOf x (wsOf l) o)) l.length (show l.length < N by omega) (fun i hi => ?_) ?_).trans rfl
      · simp only [dlt hi, dge, Bool.and_self, cond_true, Int.toNat_natCast, mixd_len m2, mixd_getD m2 hi, Option.bind_some, wrapC (show i < 9223372036854775807 by omega)]
        rw [← mixd_set m2 hi _ z_Pond (take_get hi (by omega)).symm]
        rfl
      · have := mixd_all m2
        simp only [dnlt, cond_false, this]
end
def Rel (l0 l : List Pond) : Prop := l.length = l0.length ∧ ∀ k, k < l0.length → (l.getD k z_Pond).ID = (l0.getD k z_Pond).ID ∧ (l.getD k z_Pond).Least = (l0.getD k z_Pond).Least ∧ (l.getD k z_Pond).Most = (l0.getD k z_Pond).Most ∧
  (l.getD k z_Pond).Inflow = (l0.getD k z_Pond).Inflow ∧ (l0.getD k z_Pond).Least ≤ (l.getD k z_Pond).Volume ∧ (l.getD k z_Pond).Volume ≤ (l0.getD k z_Pond).Most
theorem rel_right {l0 l : List Pond} (h0 : rightS l0 = 0) (h : Rel l0 l) : rightS l = 0 := by
  obtain ⟨hl, hr⟩ := (right_iff l0).1 h0
  obtain ⟨e, hk⟩ := h
  refine (right_iff l).2 ⟨by omega, fun i hi => ?_⟩
  rw [e] at hi
  obtain ⟨a, b⟩ := hr i hi
  obtain ⟨k1, k2, k3, k4, k5, k6⟩ := hk i hi
  refine ⟨?_, ?_⟩
  · unfold PondOk at a ⊢
    omega
  · rw [← b, k1]
    unfold seenP
    rw [fst_congr fun j hj => ?_]
    rw [(hk j (by omega)).1]
theorem sum_map_getD {l : List Pond} (f : Pond → Int) : ∀ {m : List Pond}, m.length = l.length → (g : Nat → Int) → (∀ k, k < l.length → f (m.getD k z_Pond) = f (l.getD k z_Pond) + g k) → (m.map f).sum = (l.map f).sum + ((List.range l.length).map g).sum := by
  have key : ∀ (n : Nat) {m : List Pond}, n ≤ l.length → m.length = l.length → (g : Nat → Int) → (∀ k, k < l.length → f (m.getD k z_Pond) = f (l.getD k z_Pond) + g k) → ((m.take n).map f).sum = ((l.take n).map f).sum + ((List.range n).map g).sum := by
    intro n
    induction n with
    | zero => intros; simp
    | succ n ih =>
      intro m hn hm g hg
      rw [sum_step f m z_Pond n (by omega), sum_step f l z_Pond n (by omega), ih (by omega) hm g hg, List.range_succ, List.map_append, List.sum_append, hg n (by omega)]
      simp
      omega
  intro m hm g hg
  have := key l.length (Nat.le_refl _) hm g hg
  rw [List.take_length] at this
  rw [← hm, List.take_length, hm] at this
  exact this
theorem sum_getD (l : List Int) : ((List.range l.length).map fun k => l.getD k 0).sum = l.sum := by
  congr 1
  refine list_ext 0 (by simp) fun i hi => ?_
  simp only [List.length_map, List.length_range] at hi
  simp [List.getD, hi]
theorem sum_getD_map (l : List Pond) (f : Pond → Int) : ((List.range l.length).map fun k => f (l.getD k z_Pond)).sum = (l.map f).sum := by
  congr 1
  refine list_ext 0 (by simp) fun i hi => ?_
  simp only [List.length_map, List.length_range] at hi
  simp [List.getD, hi]
theorem fill_rel {l0 l : List Pond} (hl : l.length ≤ 8) (ha : ∀ p, p ∈ l → PondOk p) (h : Rel l0 l) {t : Int} (h0 : 0 ≤ t) (h1 : t ≤ 86400) : Rel l0 (l.map (fillP t)) ∧ totI (l.map (fillP t)) = totI l + sumW l t := by
  obtain ⟨e, hk⟩ := h
  have hv : ∀ k, k < l.length → ((l.map (fillP t)).getD k z_Pond).Volume = (l.getD k z_Pond).Volume + fillI (l.getD k z_Pond) t := fun k hk' => by
    rw [getD_map (fillP t) l k z_Pond z_Pond hk']
    exact fillP_vol (ha _ (getD_mem l k z_Pond hk')) h0 h1
  refine ⟨⟨by simp [e], fun k hk0 => ?_⟩, ?_⟩
  · have hk' : k < l.length := by omega
    obtain ⟨k1, k2, k3, k4, k5, k6⟩ := hk k hk0
    have hb := fillI_bound (ha _ (getD_mem l k z_Pond hk')) h0
    have hv' := hv k hk'
    rw [getD_map (fillP t) l k z_Pond z_Pond hk'] at hv' ⊢
    have hv2 : (fillP t (l.getD k z_Pond)).Volume = (l.getD k z_Pond).Volume + fillI (l.getD k z_Pond) t := hv'
    refine ⟨k1, k2, k3, k4, ?_, ?_⟩ <;> rw [hv2] <;> omega
  · unfold totI
    rw [sumW_eq hl ha h0 h1, sum_map_getD (fun p => p.Volume) (by simp) (fun k => fillI (l.getD k z_Pond) t) hv, sum_getD_map l fun p => fillI p t]
theorem take_rel {l0 l : List Pond} (ha : ∀ p, p ∈ l → PondOk p) (h : Rel l0 l) {ps : List Int} (hp : ps.length = l.length) (hb : ∀ i, i < l.length → 0 ≤ ps.getD i 0 ∧ ps.getD i 0 ≤ (l.getD i z_Pond).Volume - (l.getD i z_Pond).Least) : Rel l0 (takeL l ps) ∧ totI (takeL l ps) = totI l - ps.sum := by
  obtain ⟨e, hk⟩ := h
  have hv : ∀ k, k < l.length → ((takeL l ps).getD k z_Pond).Volume = (l.getD k z_Pond).Volume + -(ps.getD k 0) := fun k hk' => by
    rw [take_get hk' (by omega)]
    have hq := ha _ (getD_mem l k z_Pond hk')
    have hb' := hb k hk'
    unfold PondOk at hq
    show IntKind.i64.wrap ((l.getD k z_Pond).Volume - ps.getD k 0) = _
    rw [wrap64 (by omega) (by omega)]
    omega
  refine ⟨⟨by rw [take_len hp, e], fun k hk0 => ?_⟩, ?_⟩
  · have hk' : k < l.length := by omega
    obtain ⟨k1, k2, k3, k4, k5, k6⟩ := hk k hk0
    have hb' := hb k hk'
    have hv' := hv k hk'
    rw [take_get hk' (by omega)] at hv' ⊢
    refine ⟨k1, k2, k3, k4, ?_, ?_⟩ <;> rw [hv'] <;> omega
  · unfold totI
    rw [sum_map_getD (fun p => p.Volume) (take_len hp) (fun k => -(ps.getD k 0)) hv]
    have : ((List.range l.length).map fun k => -(ps.getD k 0)).sum = -ps.sum := by
      rw [← sum_getD ps, hp]
      generalize List.range l.length = r
      induction r with
      | nil => simp
      | cons x r ih => simp only [List.map_cons, List.sum_cons, ih]; omega
    rw [this]
    omega
theorem rel_refl {l : List Pond} (h : ∀ p, p ∈ l → PondOk p) : Rel l l := ⟨rfl, fun k hk => by
  have := h _ (getD_mem l k z_Pond hk)
  unfold PondOk at this
  omega⟩
theorem tot_bound {l : List Pond} (hl : l.length ≤ 8) (h : ∀ p, p ∈ l → PondOk p) : 0 ≤ totI l ∧ totI l ≤ 8000000000 := by
  have := sum_bound (fun p : Pond => p.Volume) 1000000000 l (fun p hp => by have := h p hp; unfold PondOk at this; omega)
  unfold totI
  omega
end Go.Proofs.YtkhkblihdabnoaaGreat.Pn

/- Snowmaking: bounds of what guns draw (taken out of the texts on guns). No condition. -/
namespace Go.Proofs.YtkhkblihdabnoaaGreat.Gn
open Go.Cm Go.Proofs
set_option linter.unusedSectionVars false
theorem flo_eq {a b : Int} (hb : 0 < b) (h1 : -4000000000000000000 ≤ a) (h2 : a ≤ 4000000000000000000) : floS a b = a / b := by
  have hlo : -4000000000000000001 ≤ a / b := by
    have h := Int.ediv_le_ediv hb h1
    have h3 : (-4000000000000000000 : Int) ≤ -4000000000000000000 / b := by
      rw [Int.le_ediv_iff_mul_le hb]
      have : (4000000000000000000 : Int) * 1 ≤ 4000000000000000000 * b := Int.mul_le_mul_of_nonneg_left (by omega) (by omega)
      omega
    omega
  have hhi : a / b ≤ 4000000000000000000 := by
    have h := Int.ediv_le_ediv hb h2
    have h3 : (4000000000000000000 : Int) / b ≤ 4000000000000000000 := Int.ediv_le_self _ (by omega)
    omega
  have hm := Int.emod_nonneg a (show b ≠ 0 by omega)
  have hm2 := Int.emod_lt_of_pos a hb
  unfold floS
  rw [Int.tmod_eq_emod, Int.tdiv_eq_ediv]
  have hs : b.sign = 1 := Int.sign_eq_one_of_pos hb
  have hn : (b.natAbs : Int) = b := by omega
  rw [hs]
  by_cases hc : 0 ≤ a ∨ b ∣ a
  · rw [if_pos hc, if_pos hc]
    have : decide (a % b - ((0 : Nat) : Int) < 0) = false := by simp; omega
    rw [this, cond_false, wrap64 (by omega) (by omega)]
    omega
  · rw [if_neg hc, if_neg hc]
    have : decide (a % b - (b.natAbs : Int) < 0) = true := by simp; omega
    rw [this, cond_true, wrap64 (show -9223372036854775808 ≤ a / b + 1 by omega) (by omega), wrap64 (by omega) (by omega)]
    omega
def Piece (p q : Point) : Prop := p.X < q.X ∧ q.Y ≤ p.Y ∧ 0 ≤ q.Y ∧ p.Y ≤ 10000 ∧ -1000000000 ≤ p.X ∧ q.X ≤ 1000000000
theorem piece_eq {p q : Point} {x : Int} (h : Piece p q) (h1 : p.X ≤ x) (h2 : x ≤ q.X) : pieceS p q x = p.Y + (q.Y - p.Y) * (x - p.X) / (q.X - p.X) ∧ (q.Y - p.Y) * (x - p.X) / (q.X - p.X) ≤ 0 ∧ q.Y - p.Y ≤ (q.Y - p.Y) * (x - p.X) / (q.X - p.X) := by
  obtain ⟨a, b, c, d, e, f⟩ := h
  have k1 : (q.Y - p.Y) * (x - p.X) ≤ 0 := Int.mul_nonpos_of_nonpos_of_nonneg (by omega) (by omega)
  have k2 : (q.Y - p.Y) * (q.X - p.X) ≤ (q.Y - p.Y) * (x - p.X) := Int.mul_le_mul_of_nonpos_left (by omega) (by omega)
  have k3 : -10000 * (q.X - p.X) ≤ (q.Y - p.Y) * (q.X - p.X) := Int.mul_le_mul_of_nonneg_right (by omega) (by omega)
  have g1 : (q.Y - p.Y) * (x - p.X) / (q.X - p.X) ≤ 0 := by
    have := Int.ediv_le_ediv (show 0 < q.X - p.X by omega) k1
    simpa using this
  have g2 : q.Y - p.Y ≤ (q.Y - p.Y) * (x - p.X) / (q.X - p.X) := by
    rw [Int.le_ediv_iff_mul_le (by omega)]; exact k2
  refine ⟨?_, g1, g2⟩
  unfold pieceS
  rw [wrap64 (show -9223372036854775808 ≤ q.Y - p.Y by omega) (by omega), wrap64 (show -9223372036854775808 ≤ x - p.X by omega) (by omega), wrap64 (show -9223372036854775808 ≤ q.X - p.X by omega) (by omega),
    wrap64 (show -9223372036854775808 ≤ (q.Y - p.Y) * (x - p.X) by omega) (by omega), flo_eq (by omega) (by omega) (by omega), wrap64 (by omega) (by omega)]
theorem fall_spec {l : List Point} (h : fallS l = true) : ptsS l = true ∧ ∀ i, i < l.length → 0 ≤ (l.getD i z_Point).Y ∧ (l.getD i z_Point).Y ≤ 10000 ∧ (0 < i → (l.getD i z_Point).Y ≤ (l.getD (i - 1) z_Point).Y) := by
  simp only [fallS, Bool.and_eq_true, Option.isNone_iff_eq_none, fst_none] at h
  refine ⟨h.1, fun i hi => ?_⟩
  have := h.2 i hi
  simp only [badY, Bool.or_eq_false_iff, Bool.and_eq_false_iff, decide_eq_false_iff_not] at this
  obtain ⟨a, b, c⟩ := this
  refine ⟨by omega, by omega, fun h0 => ?_⟩
  rcases c with c | c <;> omega
theorem fall_le {l : List Point} (h : fallS l = true) {i j : Nat} (hij : i ≤ j) (hj : j < l.length) : (l.getD j z_Point).Y ≤ (l.getD i z_Point).Y := by
  obtain ⟨d, rfl⟩ : ∃ d, j = i + d := ⟨j - i, by omega⟩
  induction d with
  | zero => exact Int.le_refl _
  | succ d ih =>
    have h1 := ih (by omega) (by omega)
    have h2 := ((fall_spec h).2 (i + (d + 1)) hj).2.2 (by omega)
    rw [show i + (d + 1) - 1 = i + d by omega] at h2
    omega
theorem pts_le {l : List Point} (h : ptsS l = true) {i j : Nat} (hij : i ≤ j) (hj : j < l.length) : (l.getD i z_Point).X ≤ (l.getD j z_Point).X := by
  obtain ⟨d, rfl⟩ : ∃ d, j = i + d := ⟨j - i, by omega⟩
  induction d with
  | zero => exact Int.le_refl _
  | succ d ih =>
    have h1 := ih (by omega) (by omega)
    have h2 := ((pts_spec h).2.2 (i + (d + 1)) hj).2.2.2.2 (by omega)
    rw [show i + (d + 1) - 1 = i + d by omega] at h2
    omega
theorem fall_piece {l : List Point} (h : fallS l = true) {i : Nat} (hi : i + 1 < l.length) : Piece (l.getD i z_Point) (l.getD (i + 1) z_Point) := by
  have hp := (fall_spec h).1
  have a := (pts_spec hp).2.2 (i + 1) hi
  have b := (pts_spec hp).2.2 i (by omega)
  have c := (fall_spec h).2 (i + 1) hi
  have d := (fall_spec h).2 i (by omega)
  have e := a.2.2.2.2 (by omega)
  have f := c.2.2 (by omega)
  rw [Nat.add_sub_cancel] at e f
  exact ⟨e, f, c.1, d.2.1, b.1, a.2.1⟩
theorem at_piece {l : List Point} (h : fallS l = true) {x : Int} (h0 : ¬ x ≤ (l.getD 0 z_Point).X) (h1 : ¬ x ≥ (l.getD (l.length - 1) z_Point).X) :
    atV l x = pieceS (l.getD (seg l x) z_Point) (l.getD (seg l x + 1) z_Point) x ∧ (l.getD (seg l x + 1) z_Point).Y ≤ atV l x ∧ atV l x ≤ (l.getD (seg l x) z_Point).Y := by
  obtain ⟨s1, s2, s3, s4⟩ := seg_spec (fall_spec h).1 h0 h1
  have he : atV l x = pieceS (l.getD (seg l x) z_Point) (l.getD (seg l x + 1) z_Point) x := by
    unfold atV
    simp only [h0, h1, decide_false, cond_false]
  obtain ⟨a, b, c⟩ := piece_eq (fall_piece h s1) s4 (by omega)
  refine ⟨he, ?_, ?_⟩ <;> rw [he, a] <;> omega
theorem at_low {l : List Point} {x : Int} (h0 : x ≤ (l.getD 0 z_Point).X) : atV l x = (l.getD 0 z_Point).Y := by
  unfold atV; simp only [h0, decide_true, cond_true]
theorem at_high {l : List Point} {x : Int} (h0 : ¬ x ≤ (l.getD 0 z_Point).X) (h1 : x ≥ (l.getD (l.length - 1) z_Point).X) : atV l x = (l.getD (l.length - 1) z_Point).Y := by
  unfold atV; simp only [h0, h1, decide_true, decide_false, cond_true, cond_false]
theorem at_range {l : List Point} (h : fallS l = true) (x : Int) : 0 ≤ atV l x ∧ atV l x ≤ (l.getD 0 z_Point).Y := by
  have hl := (pts_spec (fall_spec h).1).1
  by_cases h0 : x ≤ (l.getD 0 z_Point).X
  · rw [at_low h0]
    exact ⟨((fall_spec h).2 0 (by omega)).1, Int.le_refl _⟩
  · by_cases h1 : x ≥ (l.getD (l.length - 1) z_Point).X
    · rw [at_high h0 h1]
      exact ⟨((fall_spec h).2 _ (by omega)).1, fall_le h (by omega) (by omega)⟩
    · obtain ⟨_, b, c⟩ := at_piece h h0 h1
      have s1 := (seg_spec (fall_spec h).1 h0 h1).1
      have d := ((fall_spec h).2 (seg l x + 1) s1).1
      have e := fall_le h (show 0 ≤ seg l x by omega) (by omega)
      omega
theorem range_spec {g : Gun} (h : inRangeS g = true) : 1 ≤ g.ID ∧ g.ID ≤ 9999 ∧ 1 ≤ g.Node ∧ g.Node ≤ 9999 ∧ 1 ≤ g.Run ∧ g.Run ≤ 9999 ∧ 0 ≤ g.On ∧ g.On ≤ 86400 ∧ 0 ≤ g.Off ∧ g.Off ≤ 86400 ∧ 0 ≤ g.State ∧ g.State ≤ 2 ∧ 0 ≤ g.Since ∧ g.Since ≤ 20000000 := by
  simp only [inRangeS, Bool.and_eq_true, Bool.not_eq_true', Bool.or_eq_false_iff, decide_eq_true_eq, decide_eq_false_iff_not] at h
  omega
theorem range_of {g : Gun} (h : 1 ≤ g.ID ∧ g.ID ≤ 9999 ∧ 1 ≤ g.Node ∧ g.Node ≤ 9999 ∧ 1 ≤ g.Run ∧ g.Run ≤ 9999 ∧ 0 ≤ g.On ∧ g.On ≤ 86400 ∧ 0 ≤ g.Off ∧ g.Off ≤ 86400 ∧ 0 ≤ g.State ∧ g.State ≤ 2 ∧ 0 ≤ g.Since ∧ g.Since ≤ 20000000) : inRangeS g = true := by
  simp only [inRangeS, Bool.and_eq_true, Bool.not_eq_true', Bool.or_eq_false_iff, decide_eq_true_eq, decide_eq_false_iff_not]
  omega
theorem bec_did (g : Gun) (st t least : Int) (h : inRangeS g = true) (hl : 0 ≤ least ∧ least ≤ 86400) :
    ((becS g st t least).1 = z_Gun ∧ (becS g st t least).2 ≠ 0) ∨ becS g st t least = (Gun.mk g.ID g.Node g.Run g.Kind st t g.On g.Off, 0) ∧ g.Since ≤ t ∧ t ≤ 20000000 ∧ g.Since + least ≤ t := by
  have hr := range_spec h
  unfold becS
  rw [wrap64 (by omega) (by omega)]
  by_cases h1 : t < g.Since
  · left; simp [h1]
  · by_cases h2 : t > 20000000
    · left; simp [h1, h2]
    · by_cases h3 : t < g.Since + least
      · left; simp [h1, h2, h3]
      · right; simp [h1, h2, h3]; omega
theorem kindOf_pow {ks : List GunKind} (h : ∀ i, i < ks.length → errK ks i = 0) (id : Int) : 0 ≤ (kindOf ks id).Power ∧ (kindOf ks id).Power ≤ 1000000 := by
  unfold kindOf
  cases hf : fst (fun j => (ks.getD j z_GunKind).ID == id) ks.length with
  | none => exact ⟨Int.le_refl 0, show (0 : Int) ≤ 1000000 by decide⟩
  | some i =>
    have := h i (fst_some.1 hf).1
    unfold errK at this
    cases hr : rangeK (ks.getD i z_GunKind) with
    | true => rw [hr] at this; cases this
    | false =>
      simp only [rangeK, Bool.or_eq_false_iff, decide_eq_false_iff_not] at hr
      simp only
      omega
theorem pow_step (ks : List GunKind) (l : List Gun) (i : Nat) (hi : i < l.length) : powI ks (l.take (i + 1)) = powI ks (l.take i) + bif onB (l.getD i z_Gun) then (kindOf ks (l.getD i z_Gun).Kind).Power else 0 := by
  unfold powI
  rw [filt_step l i hi, List.map_append, List.sum_append]
  cases onB (l.getD i z_Gun) <;> simp
theorem pow_bound {ks : List GunKind} (h : ∀ i, i < ks.length → errK ks i = 0) (l : List Gun) : 0 ≤ powI ks l ∧ powI ks l ≤ 1000000 * l.length := by
  unfold powI
  induction l with
  | nil => simp
  | cons g l ih =>
    have hp := kindOf_pow h g.Kind
    cases hg : onB g
    · rw [List.filter_cons_of_neg (by simp [hg])]
      simp only [List.length_cons]; omega
    · rw [List.filter_cons_of_pos (by simp [hg])]
      simp only [List.length_cons, List.map_cons, List.sum_cons]; omega
section
variable {N : Nat} (hN : 1000 < N)
include hN
theorem power_eq (ks : List GunKind) (l : List Gun) (hk : ks.length ≤ 64) (hl : l.length ≤ 64) (h : ∀ i, i < ks.length → errK ks i = 0) : gun_Power N ks l = some (powI ks l) := by
  unfold gun_Power
  refine (bindT (fun i => (powI ks (l.take i), (i : Int))) rfl (powI ks l) l.length (show l.length < N by omega) (fun i hi => ?_) ?_).trans rfl
  · simp only [dlt hi, dge, Bool.and_self, cond_true, Int.toNat_natCast, gkind_eq hN ks _ hk, Option.bind_some, wrapC (show i < 9223372036854775807 by omega)]
    have hb := pow_bound h (l.take i)
    have hp := kindOf_pow h (l.getD i z_Gun).Kind
    have hlen : (l.take i).length ≤ 64 := by simp; omega
    rw [pow_step ks l i hi, wrap64 (by omega) (by omega)]
    have ho : ((l.getD i z_Gun).State == 1) = onB (l.getD i z_Gun) := rfl
    rw [ho]
    cases onB (l.getD i z_Gun)
    · simp
    · rfl
  · simp only [dnlt, cond_false, List.take_length]
end
theorem out_range {ks : List GunKind} (h : ∀ i, i < ks.length → errK ks i = 0) (id x : Int) : 0 ≤ outS (kindOf ks id) x ∧ outS (kindOf ks id) x ≤ 10000 := by
  unfold kindOf
  cases hf : fst (fun j => (ks.getD j z_GunKind).ID == id) ks.length with
  | none => exact ⟨Int.le_refl 0, show (0 : Int) ≤ 10000 by decide⟩
  | some i =>
    have he := h i (fst_some.1 hf).1
    have hfall : fallS (ks.getD i z_GunKind).Output = true := by
      unfold errK at he
      cases hr : rangeK (ks.getD i z_GunKind) <;> cases hs : seenK ks i (ks.getD i z_GunKind).ID <;> cases hff : fallS (ks.getD i z_GunKind).Output <;> rw [hr, hs, hff] at he <;> first | rfl | cases he
    simp only [outS, atS, (fall_spec hfall).1, cond_true]
    have h1 := at_range hfall x
    have h2 := ((fall_spec hfall).2 0 (by have := (pts_spec (fall_spec hfall).1).1; omega)).2.1
    omega
theorem right_of {ks : List GunKind} {l : List Gun} (h1 : ks.length ≤ 64) (h2 : l.length ≤ 64) (h3 : ∀ i, i < ks.length → errK ks i = 0) (h4 : ∀ i, i < l.length → errG ks l i = 0) : rightS ks l = 0 := by
  unfold rightS
  have hq : (decide ((ks.length : Int) > 64) || decide ((l.length : Int) > 64)) = false := by simp only [Bool.or_eq_false_iff, decide_eq_false_iff_not]; omega
  rw [hq, cond_false, fst_none.2 fun i hi => by simp [h3 i hi]]
  simp only
  rw [fst_none.2 fun i hi => by simp [h4 i hi]]
end Go.Proofs.YtkhkblihdabnoaaGreat.Gn

