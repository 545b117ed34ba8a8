/- Snowmaking: what the functions of the guns compute, in plain words (taken out of the texts on guns). No condition. -/
import Derived.Test.YtkhkblihdabnoaaFn6
import Derived.Test.YtkhkblihdabnoaaCmq
namespace Go.Proofs.Ytkhkblihdabnoaa.Gn
open Go.Cm Go.Proofs
set_option linter.unusedSectionVars false
def badPt (l : List Point) (i : Nat) : Bool :=
  (decide ((l.getD i z_Point).X < -1000000000) || (decide ((l.getD i z_Point).X > 1000000000) || (decide ((l.getD i z_Point).Y < -1000000000) || decide ((l.getD i z_Point).Y > 1000000000)))) ||
    (decide (0 < i) && decide ((l.getD i z_Point).X ≤ (l.getD (i - 1) z_Point).X))
def ptsS (l : List Point) : Bool := !(decide ((l.length : Int) < 1) || decide ((l.length : Int) > 64)) && (fst (badPt l) l.length).isNone
def badY (l : List Point) (i : Nat) : Bool :=
  decide ((l.getD i z_Point).Y < 0) || (decide ((l.getD i z_Point).Y > 10000) || (decide (0 < i) && decide ((l.getD i z_Point).Y > (l.getD (i - 1) z_Point).Y)))
def fallS (l : List Point) : Bool := ptsS l && (fst (badY l) l.length).isNone
def seg (l : List Point) (x : Int) : Nat := (fst (fun i => !decide ((l.getD (i + 1) z_Point).X ≤ x)) (l.length - 1)).getD 0
def floS (a b : Int) : Int := bif decide (a.tmod b < 0) then IntKind.i64.wrap (IntKind.i64.wrap (a.tdiv b) - 1) else IntKind.i64.wrap (a.tdiv b)
def pieceS (p q : Point) (x : Int) : Int :=
  IntKind.i64.wrap (p.Y + floS (IntKind.i64.wrap (IntKind.i64.wrap (q.Y - p.Y) * IntKind.i64.wrap (x - p.X))) (IntKind.i64.wrap (q.X - p.X)))
def atV (l : List Point) (x : Int) : Int :=
  bif decide (x ≤ (l.getD 0 z_Point).X) then (l.getD 0 z_Point).Y
  else bif decide (x ≥ (l.getD (l.length - 1) z_Point).X) then (l.getD (l.length - 1) z_Point).Y
  else pieceS (l.getD (seg l x) z_Point) (l.getD (seg l x + 1) z_Point) x
def atS (l : List Point) (x : Int) : Int × Int := bif ptsS l then (atV l x, 0) else (0, 1)
def rangeK (k : GunKind) : Bool := decide (k.ID < 1) || (decide (k.ID > 9999) || (decide (k.Power < 0) || (decide (k.Power > 1000000) || (decide (k.Pressure < 0) || decide (k.Pressure > 1000000)))))
def seenK (l : List GunKind) (i : Nat) (u : Int) : Bool := (fst (fun j => (l.getD j z_GunKind).ID == u) i).isSome
def errK (l : List GunKind) (i : Nat) : Int :=
  bif rangeK (l.getD i z_GunKind) then 2 else bif seenK l i (l.getD i z_GunKind).ID then 7 else bif !fallS (l.getD i z_GunKind).Output then 1 else 0
def inRangeS (g : Gun) : Bool :=
  !(decide (g.ID < 1) || decide (g.ID > 9999)) && (!(decide (g.Node < 1) || decide (g.Node > 9999)) && (!(decide (g.Run < 1) || decide (g.Run > 9999)) && (!(decide (g.On < 0) || decide (g.On > 86400)) && (!(decide (g.Off < 0) || decide (g.Off > 86400)) &&
    (decide (g.State ≥ 0) && (decide (g.State ≤ 2) && (decide (g.Since ≥ 0) && decide (g.Since ≤ 20000000))))))))
def seenG (l : List Gun) (i : Nat) (u : Int) : Bool := (fst (fun j => (l.getD j z_Gun).ID == u) i).isSome
def errG (ks : List GunKind) (l : List Gun) (i : Nat) : Int :=
  bif !inRangeS (l.getD i z_Gun) then 2 else bif seenG l i (l.getD i z_Gun).ID then 7 else bif !seenK ks ks.length (l.getD i z_Gun).Kind then 8 else 0
def rightS (ks : List GunKind) (l : List Gun) : Int :=
  bif decide ((ks.length : Int) > 64) || decide ((l.length : Int) > 64) then 4
  else match fst (fun i => errK ks i != 0) ks.length with
    | some i => errK ks i
    | none => match fst (fun i => errG ks l i != 0) l.length with
      | some i => errG ks l i
      | none => 0
def kindOf (ks : List GunKind) (id : Int) : GunKind := match fst (fun j => (ks.getD j z_GunKind).ID == id) ks.length with
  | some i => ks.getD i z_GunKind
  | none => z_GunKind
def seenFK (ks : List GunKind) (i : Nat) : Int → Option Bool := fun u => bif seenK ks i u then some true else none
def seenFG (l : List Gun) (i : Nat) : Int → Option Bool := fun u => bif seenG l i u then some true else none
theorem seenFK_get (ks : List GunKind) (i : Nat) (u : Int) : (seenFK ks i u).getD false = seenK ks i u := by unfold seenFK; cases seenK ks i u <;> rfl
theorem seenFG_get (l : List Gun) (i : Nat) (u : Int) : (seenFG l i u).getD false = seenG l i u := by unfold seenFG; cases seenG l i u <;> rfl
theorem seenFK_step (ks : List GunKind) (i : Nat) : (fun u : Int => bif u == (ks.getD i z_GunKind).ID then some true else seenFK ks i u) = seenFK ks (i + 1) := by
  funext u
  have h : seenK ks (i + 1) u = (seenK ks i u || ((ks.getD i z_GunKind).ID == u)) := fst_succ _ _
  have h2 : (u == (ks.getD i z_GunKind).ID) = ((ks.getD i z_GunKind).ID == u) := BEq.comm
  unfold seenFK
  rw [h, h2]
  cases seenK ks i u <;> cases (ks.getD i z_GunKind).ID == u <;> rfl
theorem seenFG_step (l : List Gun) (i : Nat) : (fun u : Int => bif u == (l.getD i z_Gun).ID then some true else seenFG l i u) = seenFG l (i + 1) := by
  funext u
  have h : seenG l (i + 1) u = (seenG l i u || ((l.getD i z_Gun).ID == u)) := fst_succ _ _
  have h2 : (u == (l.getD i z_Gun).ID) = ((l.getD i z_Gun).ID == u) := BEq.comm
  unfold seenFG
  rw [h, h2]
  cases seenG l i u <;> cases (l.getD i z_Gun).ID == u <;> rfl
def becS (g : Gun) (st t least : Int) : Gun × Int :=
  bif decide (t < g.Since) || decide (t > 20000000) then (z_Gun, 11)
  else bif decide (t < IntKind.i64.wrap (g.Since + least)) then (z_Gun, 13)
  else (Gun.mk g.ID g.Node g.Run g.Kind st t g.On g.Off, 0)
def startS (g : Gun) (t : Int) : Gun × Int := bif g.State != 0 then (z_Gun, 10) else becS g 1 t g.Off
def stopS (g : Gun) (t : Int) : Gun × Int := bif g.State != 1 then (z_Gun, 10) else becS g 0 t g.On
def outS (k : GunKind) (x : Int) : Int := (atS k.Output x).1
def onB (g : Gun) : Bool := g.State == 1
def drawsS (ks : List GunKind) (l : List Gun) (x : Int) : List Draw := (l.filter onB).map fun g => Draw.mk g.Node (outS (kindOf ks g.Kind) x)
def needsS (ks : List GunKind) (l : List Gun) : List Draw := (l.filter onB).map fun g => Draw.mk g.Node (kindOf ks g.Kind).Pressure
def powI (ks : List GunKind) (l : List Gun) : Int := ((l.filter onB).map fun g => (kindOf ks g.Kind).Power).sum
theorem filt_step (l : List Gun) (i : Nat) (hi : i < l.length) : (l.take (i + 1)).filter onB = (l.take i).filter onB ++ bif onB (l.getD i z_Gun) then [l.getD i z_Gun] else [] := by
  rw [take_getD l i z_Gun hi, List.filter_append]
  generalize l.getD i z_Gun = g
  cases h : onB g <;> simp [h]
theorem filt_len (l : List Gun) (i : Nat) : ((l.take i).filter onB).length ≤ i := Nat.le_trans (List.length_filter_le _ _) (by simp; omega)
theorem draws_len (ks : List GunKind) (l : List Gun) (x : Int) : (drawsS ks l x).length ≤ l.length := by unfold drawsS; rw [List.length_map]; exact List.length_filter_le _ _
theorem needs_len (ks : List GunKind) (l : List Gun) : (needsS ks l).length ≤ l.length := by unfold needsS; rw [List.length_map]; exact List.length_filter_le _ _
section
variable {N : Nat}
theorem floor_eq (a b : Int) (hb : 0 < b) : fixed_floorDiv N a b = some (floS a b) := by
  unfold fixed_floorDiv floS
  have : (b != 0) = true := by simp; omega
  simp only [this, cond_true, cond_some, Option.bind_some]
theorem pts_spec {l : List Point} (h : ptsS l = true) : 1 ≤ l.length ∧ l.length ≤ 64 ∧ ∀ i, i < l.length → -1000000000 ≤ (l.getD i z_Point).X ∧ (l.getD i z_Point).X ≤ 1000000000 ∧ -1000000000 ≤ (l.getD i z_Point).Y ∧ (l.getD i z_Point).Y ≤ 1000000000 ∧
    (0 < i → (l.getD (i - 1) z_Point).X < (l.getD i z_Point).X) := by
  simp only [ptsS, Bool.and_eq_true, Bool.not_eq_true', Bool.or_eq_false_iff, decide_eq_false_iff_not, Option.isNone_iff_eq_none, fst_none] at h
  obtain ⟨⟨h1, h2⟩, h3⟩ := h
  refine ⟨by omega, by omega, fun i hi => ?_⟩
  have := h3 i hi
  simp only [badPt, Bool.or_eq_false_iff, Bool.and_eq_false_iff, decide_eq_false_iff_not] at this
  obtain ⟨⟨a, b, c, d⟩, e⟩ := this
  refine ⟨by omega, by omega, by omega, by omega, fun h0 => ?_⟩
  rcases e with e | e <;> omega
theorem seg_spec {l : List Point} (h : ptsS l = true) {x : Int} (h0 : ¬ x ≤ (l.getD 0 z_Point).X) (h1 : ¬ x ≥ (l.getD (l.length - 1) z_Point).X) :
    seg l x + 1 < l.length ∧ (∀ j, j < seg l x → (l.getD (j + 1) z_Point).X ≤ x) ∧ x < (l.getD (seg l x + 1) z_Point).X ∧ (l.getD (seg l x) z_Point).X ≤ x := by
  obtain ⟨l1, l2, _⟩ := pts_spec h
  unfold seg
  cases hf : fst (fun i => !decide ((l.getD (i + 1) z_Point).X ≤ x)) (l.length - 1) with
  | none =>
    exfalso
    rw [fst_none] at hf
    by_cases hl : l.length = 1
    · rw [hl, Nat.sub_self] at h1
      exact h1 (by omega)
    · have := hf (l.length - 2) (by omega)
      simp only [Bool.not_eq_false', decide_eq_true_eq] at this
      rw [show l.length - 2 + 1 = l.length - 1 by omega] at this
      omega
  | some i =>
    rw [fst_some] at hf
    obtain ⟨a, b, c⟩ := hf
    simp only [Bool.not_eq_true', decide_eq_false_iff_not, Bool.not_eq_false', decide_eq_true_eq] at b c
    refine ⟨by simp; omega, c, by simpa using b, ?_⟩
    simp only [Option.getD_some]
    cases i with
    | zero => omega
    | succ k => exact c k (by omega)
theorem at_ok (l : List Point) (x : Int) : ((atS l x).2 != 0) = !ptsS l := by unfold atS; cases ptsS l <;> rfl
theorem order_eq (g : Gun) (t : Int) : gun_moment_order N (moment.mk t) g = some (!(decide (t < g.Since) || decide (t > 20000000))) := by
  unfold gun_moment_order
  rw [cond_and, Option.bind_some]
  by_cases h1 : t < g.Since <;> by_cases h2 : t > 20000000 <;> simp [h1, h2] <;> omega
theorem start_eq (g : Gun) (t : Int) : gun_Start N g t = some (startS g t) := by
  unfold gun_Start startS becS
  rw [order_eq, Option.bind_some]
  cases g.State != 0 <;> cases (decide (t < g.Since) || decide (t > 20000000)) <;> cases decide (t < IntKind.i64.wrap (g.Since + g.Off)) <;> rfl
theorem stop_eq (g : Gun) (t : Int) : gun_Stop N g t = some (stopS g t) := by
  unfold gun_Stop stopS becS
  rw [order_eq, Option.bind_some]
  cases g.State != 1 <;> cases (decide (t < g.Since) || decide (t > 20000000)) <;> cases decide (t < IntKind.i64.wrap (g.Since + g.On)) <;> rfl
end
section
variable {N : Nat} (hN : 1000 < N)
include hN
theorem fright_eq (l : List Point) : fixed_right N l = some (ptsS l) := by
  unfold fixed_right ptsS
  rw [cond_or, Option.bind_some]
  cases hq : (decide ((l.length : Int) < 1) || decide ((l.length : Int) > 64)) with
  | true => rfl
  | false =>
    have hl : l.length ≤ 64 := by simp at hq; omega
    rw [cond_false, search (badPt l) (fun _ => false) () l.length (by omega) (fun i hi => ?_) (by simp)]
    · cases fst _ _ <;> rfl
    · simp only [dlt hi, dge, Bool.and_self, cond_true, Int.toNat_natCast, cond_or, Option.bind_some, wrapN (show i < 9223372036854775807 by omega)]
      unfold badPt
      cases i with
      | zero =>
        have h1 : decide (((0 : Nat) : Int) > 0) = false := by simp
        simp only [h1, cond_false, Nat.lt_irrefl, decide_false, Bool.false_and, Bool.or_false, Option.bind_some]
      | succ k =>
        have h1 : decide (((k + 1 : Nat) : Int) > 0) = true := by simp
        simp only [h1, cond_true, wrapS (show k < 9223372036854775807 by omega), dge, dlt (show k < l.length by omega), Bool.and_self, Int.toNat_natCast, Option.bind_some, Nat.add_sub_cancel, Nat.zero_lt_succ, decide_true, Bool.true_and, cond_or2]
theorem fat_eq (l : List Point) (x : Int) : fixed_At N l x = some (atS l x) := by
  unfold fixed_At atS
  rw [fright_eq hN, Option.bind_some]
  cases hp : ptsS l with
  | false => rfl
  | true =>
    obtain ⟨l1, l2, hb⟩ := pts_spec hp
    have e1 : IntKind.i64.wrap ((l.length : Int) - 1) = ((l.length - 1 : Nat) : Int) := by rw [wrap64 (by omega) (by omega)]; omega
    have e2 : decide ((0 : Int) < (l.length : Int)) = true := by simp; omega
    simp only [Bool.not_true, cond_false, Bool.true_and, e1, e2, cond_true, dge, dlt (show l.length - 1 < l.length by omega), Bool.and_self, Int.toNat_natCast]
    unfold atV
    by_cases h0 : x ≤ (l.getD 0 z_Point).X
    · simp only [h0, decide_true, cond_true]
    · by_cases h1 : x ≥ (l.getD (l.length - 1) z_Point).X
      · simp only [h0, h1, decide_true, decide_false, cond_true, cond_false]
      · obtain ⟨s1, s2, s3, s4⟩ := seg_spec hp h0 h1
        simp only [h0, h1, decide_false, cond_false]
        have hs := hb (seg l x + 1) s1
        have hx := hb (seg l x) (by omega)
        have e3 : IntKind.i64.wrap ((l.getD (seg l x + 1) z_Point).X - (l.getD (seg l x) z_Point).X) = (l.getD (seg l x + 1) z_Point).X - (l.getD (seg l x) z_Point).X := wrap64 (by omega) (by omega)
        refine (bindT (fun i => (i : Int)) rfl ((seg l x : Nat) : Int) (seg l x) (by omega) (fun i hi => ?_) ?_).trans ?_
        · simp only [wrapC (show i < 9223372036854775807 by omega), dge, dlt (show i + 1 < l.length by omega), Bool.and_self, cond_true, Int.toNat_natCast, s2 i hi, decide_true]
        · have : ¬ (l.getD (seg l x + 1) z_Point).X ≤ x := by omega
          simp only [wrapC (show seg l x < 9223372036854775807 by omega), dge, dlt s1, Bool.and_self, cond_true, Int.toNat_natCast, this, decide_false, cond_false]
        · simp only [Option.bind_some, dge, dlt (show seg l x < l.length by omega), Bool.and_self, cond_true, wrapC (show seg l x < 9223372036854775807 by omega), dlt s1, Int.toNat_natCast]
          rw [floor_eq _ _ (by rw [e3]; omega)]
          rfl
theorem falling_eq (l : List Point) : gun_falling N l = some (fallS l) := by
  unfold gun_falling fallS
  rw [fat_eq hN, Option.bind_some, at_ok]
  cases hp : ptsS l with
  | false => rfl
  | true =>
    obtain ⟨l1, l2, hb⟩ := pts_spec hp
    rw [Bool.not_true, cond_false, search (badY l) (fun _ => false) () l.length (by omega) (fun i hi => ?_) (by simp)]
    · cases fst _ _ <;> rfl
    · simp only [dlt hi, dge, Bool.and_self, cond_true, Int.toNat_natCast, wrapN (show i < 9223372036854775807 by omega)]
      unfold badY
      cases i with
      | zero =>
        have h1 : decide (((0 : Nat) : Int) > 0) = false := by simp
        simp only [h1, cond_false, Nat.lt_irrefl, decide_false, Bool.false_and, Bool.or_false, cond_or, Option.bind_some]
      | succ k =>
        have h1 : decide (((k + 1 : Nat) : Int) > 0) = true := by simp
        simp only [h1, cond_true, wrapS (show k < 9223372036854775807 by omega), dge, dlt (show k < l.length by omega), Bool.and_self, Int.toNat_natCast, Nat.add_sub_cancel, Nat.zero_lt_succ, decide_true, Bool.true_and, cond_or, Option.bind_some]
theorem inRange_eq (g : Gun) : gun_inRange N g = some (inRangeS g) := by
  unfold gun_inRange
  have hs : inRangeS g = ((fst (fun i => decide ([g.ID, g.Node, g.Run].getD i 0 < 1) || decide ([g.ID, g.Node, g.Run].getD i 0 > 9999)) 3).isNone && ((fst (fun i => decide ([g.On, g.Off].getD i 0 < 0) || decide ([g.On, g.Off].getD i 0 > 86400)) 2).isNone &&
      (decide (g.State ≥ 0) && (decide (g.State ≤ 2) && (decide (g.Since ≥ 0) && decide (g.Since ≤ 20000000)))))) := by
    rw [fst_three, fst_two]
    simp only [inRangeS, Bool.and_assoc]
    rfl
  rw [hs, search (fun i => decide ([g.ID, g.Node, g.Run].getD i 0 < 1) || decide ([g.ID, g.Node, g.Run].getD i 0 > 9999)) (fun _ => false) () 3 (by omega) (fun i hi => ?_) (by simp)]
  · cases fst (fun i => decide ([g.ID, g.Node, g.Run].getD i 0 < 1) || decide ([g.ID, g.Node, g.Run].getD i 0 > 9999)) 3 with
    | some i => rfl
    | none =>
      simp only [Option.bind_some, sres, Sum.elim_inl, Option.isNone_none, Bool.true_and]
      rw [search (fun i => decide ([g.On, g.Off].getD i 0 < 0) || decide ([g.On, g.Off].getD i 0 > 86400)) (fun _ => false) () 2 (by omega) (fun i hi => ?_) (by simp)]
      · cases fst (fun i => decide ([g.On, g.Off].getD i 0 < 0) || decide ([g.On, g.Off].getD i 0 > 86400)) 2 with
        | some i => rfl
        | none => simp only [Option.bind_some, sres, Sum.elim_inl, Option.isNone_none, Bool.true_and, cond_and]
      · have h1 : decide ((i : Int) < 2) = true := by rw [decide_eq_true_eq]; omega
        simp only [h1, dge, Bool.and_self, cond_true, Int.toNat_natCast, cond_or, Option.bind_some, wrapN (show i < 9223372036854775807 by omega)]
  · have h1 : decide ((i : Int) < 3) = true := by rw [decide_eq_true_eq]; omega
    simp only [h1, dge, Bool.and_self, cond_true, Int.toNat_natCast, cond_or, Option.bind_some, wrapN (show i < 9223372036854775807 by omega)]
theorem gright_eq (ks : List GunKind) (l : List Gun) : gun_Right N ks l = some (rightS ks l) := by
  unfold gun_Right rightS
  rw [cond_or, Option.bind_some]
  cases hq : (decide ((ks.length : Int) > 64) || decide ((l.length : Int) > 64)) with
  | true => rfl
  | false =>
    have hl : ks.length ≤ 64 ∧ l.length ≤ 64 := by simp at hq; omega
    rw [cond_false]
    refine (bindS (fun i => ((i : Int), seenFK ks i)) rfl (fun i => errK ks i != 0) (fun i => (errK ks i, bif errK ks i == 1 then seenFK ks (i + 1) else seenFK ks i)) (seenFK ks ks.length) ks.length (show ks.length < N by omega) (fun i hi _ => ?_) (fun _ => ?_)).trans ?_
    · simp only [dlt hi, dge, Bool.and_self, cond_true, Int.toNat_natCast, cond_or, Option.bind_some, seenFK_get, falling_eq hN, wrapC (show i < 9223372036854775807 by omega), seenFK_step]
      have hr : (decide ((ks.getD i z_GunKind).ID < 1) || (decide ((ks.getD i z_GunKind).ID > 9999) || (decide ((ks.getD i z_GunKind).Power < 0) || (decide ((ks.getD i z_GunKind).Power > 1000000) || (decide ((ks.getD i z_GunKind).Pressure < 0) || decide ((ks.getD i z_GunKind).Pressure > 1000000)))))) = rangeK (ks.getD i z_GunKind) := rfl
      rw [hr]
      unfold errK
      cases rangeK (ks.getD i z_GunKind) <;> cases seenK ks i (ks.getD i z_GunKind).ID <;> cases fallS (ks.getD i z_GunKind).Output <;> rfl
    · simp only [dnlt, cond_false]
    · cases hf : fst (fun i => errK ks i != 0) ks.length with
      | some i => rfl
      | none =>
        simp only [sres, Sum.elim_inl, cond_false]
        refine (bindS (fun i => ((i : Int), seenFG l i)) rfl (fun i => errG ks l i != 0) (fun i => (errG ks l i, bif errG ks l i == 8 then seenFG l (i + 1) else seenFG l i)) (seenFG l l.length) l.length (show l.length < N by omega) (fun i hi _ => ?_) (fun _ => ?_)).trans ?_
        · simp only [dlt hi, dge, Bool.and_self, cond_true, Int.toNat_natCast, Option.bind_some, seenFK_get, seenFG_get, inRange_eq hN, wrapC (show i < 9223372036854775807 by omega), seenFG_step]
          unfold errG
          cases inRangeS (l.getD i z_Gun) <;> cases seenG l i (l.getD i z_Gun).ID <;> cases seenK ks ks.length (l.getD i z_Gun).Kind <;> rfl
        · simp only [dnlt, cond_false]
        · cases fst (fun i => errG ks l i != 0) l.length <;> rfl
theorem gkind_eq (ks : List GunKind) (id : Int) (hl : ks.length ≤ 64) : gun_kind N ks id = some (kindOf ks id) := by
  unfold gun_kind kindOf
  refine (bindS (fun i => ((i : Int), z_GunKind)) rfl (fun i => (ks.getD i z_GunKind).ID == id) (fun i => ks.getD i z_GunKind) z_GunKind ks.length (show ks.length < N by omega) (fun i hi _ => ?_) (fun _ => ?_)).trans ?_
  · simp only [dlt hi, dge, Bool.and_self, cond_true, Int.toNat_natCast, wrapC (show i < 9223372036854775807 by omega)]
  · simp only [dnlt, cond_false]
  · cases fst _ _ <;> rfl
theorem gout_eq (k : GunKind) (x : Int) : gun_Output N k x = some (outS k x) := by
  unfold gun_Output outS
  rw [fat_eq hN]; rfl
theorem draws_eq (ks : List GunKind) (l : List Gun) (x : Int) (hk : ks.length ≤ 64) (hl : l.length ≤ 64) : gun_Draws N ks l x = some (drawsS ks l x) := by
  unfold gun_Draws
  refine (bindT (fun i => (drawsS ks (l.take i) x, (i : Int))) rfl (drawsS ks l x) l.length (show l.length < N by omega) (fun i hi => ?_) ?_).trans rfl
  · have hlen := filt_len l i
    simp only [dlt hi, dge, Bool.and_self, cond_true, Int.toNat_natCast, gkind_eq hN ks _ hk, gout_eq hN, Option.bind_some, wrapC (show i < 9223372036854775807 by omega)]
    have hb : decide (((drawsS ks (l.take i) x).length + [Draw.mk (l.getD i z_Gun).Node (outS (kindOf ks (l.getD i z_Gun).Kind) x)].length) * 16 ≤ 140737488355328) = true := by
      simp only [drawsS, List.length_map, List.length_singleton, decide_eq_true_eq]; omega
    rw [hb]
    have hd : drawsS ks (l.take (i + 1)) x = drawsS ks (l.take i) x ++ bif onB (l.getD i z_Gun) then [Draw.mk (l.getD i z_Gun).Node (outS (kindOf ks (l.getD i z_Gun).Kind) x)] else [] := by
      unfold drawsS
      rw [filt_step l i hi, List.map_append]
      cases onB (l.getD i z_Gun) <;> rfl
    rw [hd]
    have ho : ((l.getD i z_Gun).State == 1) = onB (l.getD i z_Gun) := rfl
    rw [ho]
    cases onB (l.getD i z_Gun)
    · simp
    · rfl
  · simp only [dnlt, cond_false, List.take_length]
theorem needs_eq (ks : List GunKind) (l : List Gun) (hk : ks.length ≤ 64) (hl : l.length ≤ 64) : gun_Needs N ks l = some (needsS ks l) := by
  unfold gun_Needs
  refine (bindT (fun i => (needsS ks (l.take i), (i : Int))) rfl (needsS ks l) l.length (show l.length < N by omega) (fun i hi => ?_) ?_).trans rfl
  · have hlen := filt_len l i
    simp only [dlt hi, dge, Bool.and_self, cond_true, Int.toNat_natCast, gkind_eq hN ks _ hk, Option.bind_some, wrapC (show i < 9223372036854775807 by omega)]
    have hb : decide (((needsS ks (l.take i)).length + [Draw.mk (l.getD i z_Gun).Node (kindOf ks (l.getD i z_Gun).Kind).Pressure].length) * 16 ≤ 140737488355328) = true := by
      simp only [needsS, List.length_map, List.length_singleton, decide_eq_true_eq]; omega
    rw [hb]
    have hd : needsS ks (l.take (i + 1)) = needsS ks (l.take i) ++ bif onB (l.getD i z_Gun) then [Draw.mk (l.getD i z_Gun).Node (kindOf ks (l.getD i z_Gun).Kind).Pressure] else [] := by
      unfold needsS
      rw [filt_step l i hi, List.map_append]
      cases onB (l.getD i z_Gun) <;> rfl
    rw [hd]
    have ho : ((l.getD i z_Gun).State == 1) = onB (l.getD i z_Gun) := rfl
    rw [ho]
    cases onB (l.getD i z_Gun)
    · simp
    · rfl
  · simp only [dnlt, cond_false, List.take_length]
end
theorem right_zero {ks : List GunKind} {l : List Gun} (h : rightS ks l = 0) : ks.length ≤ 64 ∧ l.length ≤ 64 ∧ (∀ i, i < ks.length → errK ks i = 0) ∧ ∀ i, i < l.length → errG ks l i = 0 := by
  unfold rightS at h
  cases hq : (decide ((ks.length : Int) > 64) || decide ((l.length : Int) > 64)) with
  | true => rw [hq] at h; cases h
  | false =>
    rw [hq, cond_false] at h
    have hl : ks.length ≤ 64 ∧ l.length ≤ 64 := by simp at hq; omega
    split at h
    · rename_i i hf
      have := (fst_some.1 hf).2.1
      simp [h] at this
    · rename_i hf
      split at h
      · rename_i i hg
        have := (fst_some.1 hg).2.1
        simp [h] at this
      · rename_i hg
        refine ⟨hl.1, hl.2, fun i hi => ?_, fun i hi => ?_⟩
        · simpa using fst_none.1 hf i hi
        · simpa using fst_none.1 hg i hi
end Go.Proofs.Ytkhkblihdabnoaa.Gn
