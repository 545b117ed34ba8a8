/- The ponds: Take, and the law PondTakes, in plain words. No condition. -/
import Derived.Test.YtoniopgegcngpaaPnd6
import Derived.Test.YtoniopgegcngpaaPnd2
namespace Go.Proofs.Ytoniopgegcngpaa
open Go.Cm Go.Proofs
theorem perm_sum {l1 l2 : List Int} (h : l1.Perm l2) : l1.sum = l2.sum := by
  induction h with
  | nil => rfl
  | cons x _ ih => simp [ih]
  | swap x y l => simp only [List.sum_cons]; omega
  | trans _ _ h1 h2 => exact h1.trans h2
theorem idx_map (rs : List Int) : (idx rs.length).map (rat rs) = rs := by
  refine list_ext 0 (by rw [List.length_map, idx_len]) fun i hi => ?_
  rw [List.length_map, idx_len] at hi
  rw [getD_map (rat rs) (idx rs.length) i 0 0 (by rw [idx_len]; exact hi), idx_get hi]
  unfold rat
  rw [Int.toNat_natCast]
section
variable {a : Int} {ws : List Int} (g : Good a ws) {o : List Int} (hS : Sorted (ws.map (rF a ws.sum)) ws.length o)
/-- the parts -/
def partsOf (a : Int) (ws o : List Int) : List Int := incs (ws.map (qF a ws.sum)) (o.take (a - (ws.map (qF a ws.sum)).sum).toNat)
include g hS
theorem top_pos {v : Int} (hv : v ∈ o.take (a - (ws.map (qF a ws.sum)).sum).toNat) : 0 < rat (ws.map (rF a ws.sum)) v := by
  obtain ⟨h1, h2, h3, h4⟩ := g.sum
  obtain ⟨L1, L2, L3⟩ := g.left
  obtain ⟨o1, o2, o3⟩ := sorted_facts hS
  obtain ⟨lf, hlf⟩ : ∃ lf : Nat, a - (ws.map (qF a ws.sum)).sum = lf := ⟨(a - (ws.map (qF a ws.sum)).sum).toNat, by omega⟩
  rw [hlf] at hv L2 L3
  rw [Int.toNat_natCast] at hv
  have hr : ∀ u, u ∈ o → 0 ≤ rat (ws.map (rF a ws.sum)) u ∧ rat (ws.map (rF a ws.sum)) u ≤ ws.sum - 1 := fun u hu => by
    have hb := o2 u hu
    unfold rat
    rw [getD_map _ ws u.toNat 0 0 (by omega)]
    have := g.q (getD_mem ws u.toNat 0 (by omega))
    omega
  apply Int.not_le.1
  intro hle
  obtain ⟨m, hm, hvm⟩ := mem_getD 0 hv
  have htl : (o.take lf).length = lf := by simp; omega
  rw [htl] at hm
  rw [getD_take _ _ _ _ hm] at hvm
  have hmo : m < o.length := by omega
  have hsplit : o = o.take m ++ v :: o.drop (m + 1) := by
    conv => lhs; rw [← List.take_append_drop m o]
    rw [List.drop_eq_getElem_cons hmo, ← hvm]
    simp [List.getD, List.getElem?_eq_getElem hmo]
  have hpw := hS.2
  rw [hsplit, List.pairwise_append, List.pairwise_cons] at hpw
  have hsum : (ws.map (rF a ws.sum)).sum = (o.map (rat (ws.map (rF a ws.sum)))).sum := by
    have e1 := idx_map (ws.map (rF a ws.sum))
    have e2 := perm_sum (hS.1.map (rat (ws.map (rF a ws.sum))))
    rw [e2]
    have e3 : idx ws.length = idx (ws.map (rF a ws.sum)).length := by rw [List.length_map]
    rw [e3, e1]
  have hzero : ((v :: o.drop (m + 1)).map (rat (ws.map (rF a ws.sum)))).sum ≤ 0 := by
    have := sum_bound (rat (ws.map (rF a ws.sum))) 0 (v :: o.drop (m + 1)) (fun u hu => by
      have huo : u ∈ o := by rw [hsplit]; exact List.mem_append_right _ hu
      have := hr u huo
      rcases List.mem_cons.1 hu with rfl | hu
      · omega
      · have := hpw.2.1.1 u hu
        unfold ltR at this
        omega)
    omega
  have htake := sum_bound (rat (ws.map (rF a ws.sum))) (ws.sum - 1) (o.take m) (fun u hu => hr u (List.mem_of_mem_take hu))
  have hml : (o.take m).length = m := by simp; omega
  rw [hml] at htake
  rw [hsplit, List.map_append, List.sum_append] at hsum
  have e5 : ws.sum * (lf : Int) = ws.sum * (m : Int) + ws.sum * ((lf : Int) - m) := by rw [← Int.mul_add]; congr 1; omega
  have e6 : (ws.sum - 1) * (m : Int) = ws.sum * m - m := by rw [Int.sub_mul, Int.one_mul]
  have e7 : ws.sum * 1 ≤ ws.sum * ((lf : Int) - m) := Int.mul_le_mul_of_nonneg_left (by omega) (by omega)
  omega
theorem parts_facts : (partsOf a ws o).length = ws.length ∧ (partsOf a ws o).sum = a ∧ ∀ i, i < ws.length → (∃ b : Bool, (partsOf a ws o).getD i 0 = qF a ws.sum (ws.getD i 0) + (bif b then 1 else 0) ∧ (b = true → 0 < rF a ws.sum (ws.getD i 0))) ∧
    0 ≤ (partsOf a ws o).getD i 0 ∧ (partsOf a ws o).getD i 0 ≤ ws.getD i 0 := by
  obtain ⟨h1, h2, h3, h4⟩ := g.sum
  have hl := g.len
  have hle := g.le
  obtain ⟨L1, L2, L3⟩ := g.left
  obtain ⟨o1, o2, o3⟩ := sorted_facts hS
  have hqb : ∀ x, x ∈ ws.map (qF a ws.sum) → 0 ≤ x ∧ x ≤ 8000000000 := fun x hx => by
    obtain ⟨w, hw, rfl⟩ := List.mem_map.1 hx
    have := g.q hw
    omega
  have hT : ∀ v, v ∈ o.take (a - (ws.map (qF a ws.sum)).sum).toNat → 0 ≤ v ∧ v < ((ws.map (qF a ws.sum)).length : Int) := fun v hv => by rw [List.length_map]; exact o2 v (List.mem_of_mem_take hv)
  have htl : (o.take (a - (ws.map (qF a ws.sum)).sum).toNat).length = (a - (ws.map (qF a ws.sum)).sum).toNat := by simp; omega
  have hlim : (8000000000 : Int) + ((o.take (a - (ws.map (qF a ws.sum)).sum).toNat).length : Int) ≤ 4611686018427387904 := by rw [htl]; omega
  refine ⟨by unfold partsOf; rw [incs_len, List.length_map], ?_, fun i hi => ?_⟩
  · unfold partsOf
    rw [(incs_spec _ _ 8000000000 hqb hT (by omega) hlim).1, htl]
    omega
  · have hw := getD_mem ws i 0 hi
    have hq := g.q hw
    have hget := incs_get _ _ 8000000000 hqb hT (by omega) hlim (o3.sublist (List.take_sublist _ _)) i (by rw [List.length_map]; exact hi)
    rw [getD_map _ ws i 0 0 hi] at hget
    have hgp : (partsOf a ws o).getD i 0 = qF a ws.sum (ws.getD i 0) + bif (o.take (a - (ws.map (qF a ws.sum)).sum).toNat).contains (i : Int) then 1 else 0 := hget
    have hpos : (o.take (a - (ws.map (qF a ws.sum)).sum).toNat).contains (i : Int) = true → 0 < rF a ws.sum (ws.getD i 0) := fun hc => by
      have := top_pos g hS (v := (i : Int)) (by simpa using hc)
      unfold rat at this
      rwa [Int.toNat_natCast, getD_map _ ws i 0 0 hi] at this
    have hdiv : ws.sum * qF a ws.sum (ws.getD i 0) + rF a ws.sum (ws.getD i 0) = a * ws.getD i 0 := Int.mul_ediv_add_emod _ _
    have hwb := g.wt _ hw
    have hmul : a * ws.getD i 0 ≤ ws.sum * ws.getD i 0 := Int.mul_le_mul_of_nonneg_right hle hwb.1
    have hqw : ∀ z : Int, ws.sum * z ≤ ws.sum * ws.getD i 0 → z ≤ ws.getD i 0 := fun z hz => Int.le_of_mul_le_mul_left hz h2
    refine ⟨⟨_, hgp, hpos⟩, ?_, ?_⟩
    · rw [hgp]
      cases (o.take (a - (ws.map (qF a ws.sum)).sum).toNat).contains (i : Int)
      · rw [cond_false]; omega
      · rw [cond_true]; omega
    · rw [hgp]
      cases hc : (o.take (a - (ws.map (qF a ws.sum)).sum).toNat).contains (i : Int) with
      | false =>
        rw [cond_false, Int.add_zero]
        exact hqw _ (by omega)
      | true =>
        have hp := hpos hc
        rw [cond_true]
        have h5 : qF a ws.sum (ws.getD i 0) < ws.getD i 0 := Int.lt_of_mul_lt_mul_left (a := ws.sum) (by omega) (by omega)
        omega
end
/-! Take -/
def wsOf (l : List Pond) : List Int := l.map fun p => p.Volume - p.Least
def takeP (p : Pond) (n : Int) : Pond := Pond.mk p.ID (IntKind.i64.wrap (p.Volume - n)) p.Least p.Most p.Inflow
def takeL (l : List Pond) (ps : List Int) : List Pond := l.zipWith takeP ps
theorem take_get {l : List Pond} {ps : List Int} {i : Nat} (h1 : i < l.length) (h2 : i < ps.length) : (takeL l ps).getD i z_Pond = takeP (l.getD i z_Pond) (ps.getD i 0) := by
  simp [takeL, List.getD, List.getElem?_zipWith, List.getElem?_eq_getElem h1, List.getElem?_eq_getElem h2]
theorem take_len {l : List Pond} {ps : List Int} (h : ps.length = l.length) : (takeL l ps).length = l.length := by simp [takeL, h]
theorem good_of {l : List Pond} (hl : l.length ≤ 8) (h : ∀ p, p ∈ l → PondOk p) {x : Int} (h0 : 0 < x) (h1 : x ≤ spaI l) : Good x (wsOf l) :=
  ⟨by simp [wsOf, hl], fun w hw => by
    obtain ⟨p, hp, rfl⟩ := List.mem_map.1 hw
    have := h p hp
    unfold PondOk at this
    omega, h0, h1⟩
section
variable {N : Nat} (hN : 1000 < N) {l : List Pond} (hl : l.length ≤ 8) (h : ∀ p, p ∈ l → PondOk p)
include hN hl h
omit hN hl h in
theorem take_low {x : Int} (hx : x < 0) : pond_Take N l x = some ([], 2) ∧ r39_Take N l x = some ([], 2) := by
  unfold pond_Take r39_Take
  simp only [hx, decide_true, cond_true, and_self]
theorem take_high {x : Int} (hx : 0 ≤ x) (h1 : spaI l < x) : pond_Take N l x = some ([], 9) ∧ r39_Take N l x = some ([], 9) := by
  unfold pond_Take r39_Take
  have c1 : decide (x < 0) = false := by rw [decide_eq_false_iff_not]; omega
  have c2 : decide (x > spaI l) = true := by rw [decide_eq_true_eq]; omega
  simp only [c1, cond_false, spare_eq hN l hl h, rspare_eq hN l hl h, Option.bind_some, c2, cond_true, and_self]
omit h in
/-- the reference's last loop -/
theorem rtake_loop {ps : List Int} (hps : ps.length = l.length) :
    (whileF N (fun (p10 : List Pond × Int) =>
      bif decide (p10.snd < (↑l.length : Int)) then
        bif decide ((0 : Int) ≤ p10.snd) && decide (p10.snd < (↑l.length : Int)) then
          bif decide ((0 : Int) ≤ p10.snd) && decide (p10.snd < (↑ps.length : Int)) then
            (some [Pond.mk (l.getD (Int.toNat p10.snd) z_Pond).ID (IntKind.i64.wrap ((l.getD (Int.toNat p10.snd) z_Pond).Volume - ps.getD (Int.toNat p10.snd) (0 : Int))) (l.getD (Int.toNat p10.snd) z_Pond).Least
                (l.getD (Int.toNat p10.snd) z_Pond).Most (l.getD (Int.toNat p10.snd) z_Pond).Inflow]).bind fun (r11 : List Pond) =>
              bif decide ((List.length p10.fst + r11.length) * 40 ≤ 140737488355328) then
                (some (p10.fst ++ r11)).bind fun (r12 : List Pond) => some (Sum.inl (r12, IntKind.i64.wrap (p10.snd + (1 : Int))))
              else none
          else none
        else none
      else some (Sum.inr p10.fst)) ([], (0 : Int))).bind (fun (r13 : List Pond) => some (r13, (0 : Int))) = some (takeL l ps, 0) := by
  have htl := take_len hps
  refine (bindT (fun i => ((takeL l ps).take i, (i : Int))) rfl (takeL l ps) l.length (show l.length < N by omega) (fun i hi => ?_) ?_).trans rfl
  · have hi' : i < ps.length := by omega
    have b1 : ∀ x : Pond, decide ((((takeL l ps).take i).length + [x].length) * 40 ≤ 140737488355328) = true := fun x => by
      simp only [List.length_take, List.length_singleton, decide_eq_true_eq]; omega
    simp only [dlt hi, dge, dlt hi', Bool.and_self, cond_true, Int.toNat_natCast, Option.bind_some, b1, wrapC (show i < 9223372036854775807 by omega)]
    rw [take_getD (takeL l ps) i z_Pond (by omega), take_get hi hi']
    rfl
  · have : (takeL l ps).take l.length = takeL l ps := by rw [← htl, List.take_length]
    simp only [dnlt, cond_false, this]
theorem rweights {γ : Type} (K : List Int → Option γ) :
    (whileF N (fun (p3 : List Int × Int) =>
      bif decide (p3.snd < (↑l.length : Int)) then
        bif decide ((0 : Int) ≤ p3.snd) && decide (p3.snd < (↑l.length : Int)) then
          bif decide ((0 : Int) ≤ p3.snd) && decide (p3.snd < (↑l.length : Int)) then
            (some [IntKind.i64.wrap ((l.getD (Int.toNat p3.snd) z_Pond).Volume - (l.getD (Int.toNat p3.snd) z_Pond).Least)]).bind fun (r4 : List Int) =>
              bif decide ((List.length p3.fst + r4.length) * 8 ≤ 140737488355328) then
                (some (p3.fst ++ r4)).bind fun (r5 : List Int) => some (Sum.inl (r5, IntKind.i64.wrap (p3.snd + (1 : Int))))
              else none
          else none
        else none
      else some (Sum.inr p3.fst)) ([], (0 : Int))).bind K = K (wsOf l) := by
  have hwl : (wsOf l).length = l.length := by simp [wsOf]
  refine bindT (fun i => ((wsOf l).take i, (i : Int))) rfl (wsOf l) l.length (show l.length < N by omega) (fun i hi => ?_) ?_
  · have b1 : ∀ x : Int, decide ((((wsOf l).take i).length + [x].length) * 8 ≤ 140737488355328) = true := fun x => by
      simp only [List.length_take, List.length_singleton, decide_eq_true_eq]; omega
    have hp := h _ (getD_mem l i z_Pond hi)
    unfold PondOk at hp
    simp only [dlt hi, dge, Bool.and_self, cond_true, Int.toNat_natCast, Option.bind_some, b1, wrapC (show i < 9223372036854775807 by omega)]
    rw [take_getD (wsOf l) i 0 (by omega), wrap64 (by omega) (by omega)]
    have : (wsOf l).getD i 0 = (l.getD i z_Pond).Volume - (l.getD i z_Pond).Least := getD_map _ l i z_Pond 0 hi
    rw [this]
  · have : (wsOf l).take l.length = wsOf l := by rw [← hwl, List.take_length]
    simp only [dnlt, cond_false, this]
theorem take_zero : pond_Take N l 0 = some (l, 0) ∧ r39_Take N l 0 = some (l, 0) := by
  have hs := (sum_ge (wsOf l) (fun w hw => by
    obtain ⟨p, hp, rfl⟩ := List.mem_map.1 hw
    have := h p hp
    unfold PondOk at this
    omega)).1
  have hs' : 0 ≤ spaI l := hs
  have c1 : decide ((0 : Int) > spaI l) = false := by rw [decide_eq_false_iff_not]; omega
  constructor
  · unfold pond_Take
    have c0 : decide ((0 : Int) < 0) = false := by decide
    simp only [c0, cond_false, spare_eq hN l hl h, Option.bind_some, c1, clone_eq l (show l.length ≤ 900 by omega), beq_self_eq_true, cond_true]
  · unfold r39_Take
    have c0 : decide ((0 : Int) < 0) = false := by decide
    have c3 : decide ((0 : Int) > 0) = false := by decide
    have d1 : decide ((l.length : Int) ≤ (l.length : Int)) = true := by simp
    have d2 : decide ((l.length : Int) * 8 ≤ 140737488355328) = true := by rw [decide_eq_true_eq]; omega
    simp only [c0, cond_false, rspare_eq hN l hl h, Option.bind_some, c1]
    refine (rweights hN hl h _).trans ?_
    simp only [d1, d2, Bool.and_self, cond_true, Int.toNat_natCast, c3, cond_false, Option.bind_some]
    refine (rtake_loop hN hl (ps := List.replicate l.length 0) (by simp)).trans ?_
    have : takeL l (List.replicate l.length 0) = l := by
      refine list_ext z_Pond (take_len (by simp)) fun i hi => ?_
      rw [take_len (by simp)] at hi
      rw [take_get hi (by simpa using hi)]
      have hp := h _ (getD_mem l i z_Pond hi)
      unfold PondOk at hp
      have hz : (List.replicate l.length (0 : Int)).getD i 0 = 0 := by simp [List.getD, List.getElem?_replicate, hi]
      rw [hz]
      unfold takeP
      rw [Int.sub_zero, wrap64 (by omega) (by omega)]
    rw [this]
theorem take_some {x : Int} (hx : 0 < x) (h1 : x ≤ spaI l) : ∃ o, Sorted ((wsOf l).map (rF x (wsOf l).sum)) (wsOf l).length o ∧ pond_Take N l x = some (takeL l (partsOf x (wsOf l) o), 0) ∧ r39_Take N l x = some (takeL l (partsOf x (wsOf l) o), 0) := by
  have g := good_of hl h hx h1
  obtain ⟨o, hS, e1, e2⟩ := split_both hN g
  have hpf := parts_facts g hS
  have hwl : (wsOf l).length = l.length := by simp [wsOf]
  have hpl : (partsOf x (wsOf l) o).length = l.length := by rw [hpf.1, hwl]
  have e1' : split_Split N x (wsOf l) = some (partsOf x (wsOf l) o, 0) := e1
  have e2' : r34_Split N x (wsOf l) = some (partsOf x (wsOf l) o, 0) := e2
  have c0 : decide (x < 0) = false := by rw [decide_eq_false_iff_not]; omega
  have c1 : decide (x > spaI l) = false := by rw [decide_eq_false_iff_not]; omega
  have c2 : (x == 0) = false := by rw [beq_eq_false_iff_ne]; omega
  have c3 : decide (x > 0) = true := by rw [decide_eq_true_eq]; omega
  have d1 : decide ((l.length : Int) ≤ (l.length : Int)) = true := by simp
  have d2 : decide ((l.length : Int) * 8 ≤ 140737488355328) = true := by rw [decide_eq_true_eq]; omega
  refine ⟨o, hS, ?_, ?_⟩
  · unfold pond_Take
    simp only [c0, cond_false, spare_eq hN l hl h, Option.bind_some, c1, clone_eq l (show l.length ≤ 900 by omega), c2, d1, d2, Bool.and_self, cond_true, Int.toNat_natCast]
    have m1 : (wsOf l).length = (List.replicate l.length (0 : Int)).length := by rw [hwl, List.length_replicate]
    refine (bindT (fun i => ((i : Int), mixd (wsOf l) (List.replicate l.length 0) i)) (by simp [mixd_zero]) (wsOf l) l.length (show l.length < N by omega) (fun i hi => ?_) ?_).trans ?_
    · have hi' : i < (List.replicate l.length (0 : Int)).length := by rw [List.length_replicate]; exact hi
      have hp := h _ (getD_mem l i z_Pond hi)
      unfold PondOk at hp
      have hw : IntKind.i64.wrap ((l.getD i z_Pond).Volume - (l.getD i z_Pond).Least) = (wsOf l).getD i 0 := by
        rw [wrap64 (by omega) (by omega)]; exact (getD_map (fun p : Pond => p.Volume - p.Least) l i z_Pond 0 hi).symm
      simp only [dlt hi, dge, Bool.and_self, cond_true, Int.toNat_natCast, mixd_len m1, dlt hi', Option.bind_some, hw, wrapC (show i < 9223372036854775807 by omega)]
      rw [mixd_set m1 hi' _ 0 rfl]
    · have := mixd_all m1
      rw [List.length_replicate] at this
      simp only [dnlt, cond_false, this]
    · simp only [e1', Option.bind_some, bne_self_eq_false, cond_false, hpl]
      have m2 : (takeL l (partsOf x (wsOf l) o)).length = l.length := take_len hpl
      refine (bindT (fun i => ((i : Int), mixd (takeL l (partsOf x (wsOf l) o)) l i)) (by simp [mixd_zero]) (takeL l (partsOf x (wsOf l) o)) l.length (show l.length < N by omega) (fun i hi => ?_) ?_).trans rfl
      · simp only [dlt hi, dge, Bool.and_self, cond_true, Int.toNat_natCast, mixd_len m2, mixd_getD m2 hi, Option.bind_some, wrapC (show i < 9223372036854775807 by omega)]
        rw [← mixd_set m2 hi _ z_Pond (take_get hi (by omega)).symm]
        rfl
      · have := mixd_all m2
        simp only [dnlt, cond_false, this]
  · unfold r39_Take
    simp only [c0, cond_false, rspare_eq hN l hl h, Option.bind_some, c1]
    refine (rweights hN hl h _).trans ?_
    simp only [d1, d2, Bool.and_self, cond_true, Int.toNat_natCast, c3, Option.bind_some, e2']
    exact rtake_loop hN hl hpl
end
theorem t_PondTakes : AllW (fun y => y = some true) [TI.l_Pond, TI.t_i64] (l39_PondTakes 2000) := fun (l : List Pond) _ (x : Int) _ => by
  show l39_PondTakes 2000 l x = some true
  unfold l39_PondTakes
  rw [alive_ok, right_eq (by omega)]
  by_cases hr : rightS l = 0
  · obtain ⟨hl, _⟩ := (right_iff l).1 hr
    have ha := right_all hr
    have h0 : (rightS l == 0) = true := by simp [hr]
    suffices hs : ∃ (q : List Pond) (e : Int), q.length ≤ 900 ∧ pond_Take 2000 l x = some (q, e) ∧ r39_Take 2000 l x = some (q, e) by
      obtain ⟨q, e, hq, h1, h2⟩ := hs
      simp only [Option.bind_some, h0, Bool.not_true, cond_false, h1, h2, same_eq (show 1000 < 2000 by omega) q hq, cond_true, beq_self_eq_true]
    by_cases h1 : x < 0
    · obtain ⟨a, b⟩ := take_low (N := 2000) (l := l) h1
      exact ⟨[], 2, by simp, a, b⟩
    · by_cases h2 : spaI l < x
      · obtain ⟨a, b⟩ := take_high (show 1000 < 2000 by omega) hl ha (by omega) h2
        exact ⟨[], 9, by simp, a, b⟩
      · by_cases h3 : x = 0
        · subst h3
          obtain ⟨a, b⟩ := take_zero (show 1000 < 2000 by omega) hl ha
          exact ⟨l, 0, by omega, a, b⟩
        · obtain ⟨o, hS, a, b⟩ := take_some (show 1000 < 2000 by omega) hl ha (x := x) (by omega) (by omega)
          have hpf := parts_facts (good_of hl ha (x := x) (by omega) (by omega)) hS
          exact ⟨_, 0, by rw [take_len (by rw [hpf.1]; simp [wsOf])]; omega, a, b⟩
  · have : (rightS l == 0) = false := by simp [hr]
    simp [this]
end Go.Proofs.Ytoniopgegcngpaa
