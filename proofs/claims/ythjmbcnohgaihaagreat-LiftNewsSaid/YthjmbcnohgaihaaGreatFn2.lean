/- Written by a program (gen.py, asm.py): what each function computes, as a plain function, and that its text computes it. No condition. -/
import Derived.Test.YthjmbcnohgaihaaGreatFn1
import Derived.Test.YthjmbcnohgaihaaGreatCmo
namespace Go.Proofs.YthjmbcnohgaihaaGreat
open Go.Cm Go.Proofs
set_option linter.unusedVariables false
set_option maxRecDepth 100000

def chain_Right (N : Nat) (x0 : Chain) : Option Int :=
 
  bif decide ((↑x0.Contacts.length : Int) > (32 : Int)) then some (4 : Int)
  else
    (bif decide (x0.Key < (0 : Int)) then some true else some (decide (x0.Key > (9999 : Int)))).bind fun (r1 : Bool) =>
      bif r1 then some (2 : Int)
      else
        (whileF N
              (fun (p2 : Int) =>
                bif decide (p2 < (↑x0.Contacts.length : Int)) then
                  (chain_rightContact N x0 p2).bind fun (r3 : Int) =>
                    bif r3 != (0 : Int) then some (Sum.inr (Sum.inr r3))
                    else some (Sum.inl (IntKind.i64.wrap (p2 + (1 : Int))))
                else some (Sum.inr (Sum.inl ())))
              (0 : Int)).bind
          fun (r4 : Unit ⊕ Int) => Sum.elim (fun (p5 : Unit) => some (0 : Int)) (fun (p6 : Int) => some p6) r4
theorem d_chain_Right (N : Nat) : DenF Tryz.prog 39 ⟨[.t_Chain], [.t_i64], [[none]], chain_Right N⟩ :=
  den_of (N := N) (gam := [(74, ⟨[.t_Chain, .t_i64], [.t_i64], [[none]], chain_rightContact N⟩)]) (txt := []) (hints := [(39, [([0, 0, 1, 1], ⟨[1], [], [(.nrm, [.reg 16 .t_bool [none]])], []⟩), ([0, 1, 0, 1, 1, 1], ⟨[1, 19], [.reg 20 .t_i64 [none]], [(.ex 0, []), (.ret, [.reg 2 .t_i64 [none]])], []⟩)])]) mixed (.cons (d_chain_rightContact N) .nil) .nil Tryz.func39 (by kernel_rfl) (by kernel_rfl)

def sl_Index_int (N : Nat) (x0 : List Int) (x1 : Int) : Option Int :=
 
  (whileF N
        (fun (p2 : Int) =>
          bif decide (p2 < (↑x0.length : Int)) then
            bif decide ((0 : Int) ≤ p2) && decide (p2 < (↑x0.length : Int)) then
              bif x1 == x0.getD p2.toNat (0 : Int) then some (Sum.inr (Sum.inr p2))
              else some (Sum.inl (IntKind.i64.wrap (p2 + (1 : Int))))
            else none
          else some (Sum.inr (Sum.inl ())))
        (0 : Int)).bind
    fun (r3 : Unit ⊕ Int) => Sum.elim (fun (p4 : Unit) => some (-1 : Int)) (fun (p5 : Int) => some p5) r3
theorem d_sl_Index_int (N : Nat) : DenF Tryz.prog 116 ⟨[.l_i64, .t_i64], [.t_i64], [[none]], sl_Index_int N⟩ :=
  den_of (N := N) (gam := []) (txt := []) (hints := [(116, [([0, 1, 0, 1], ⟨[0, 1, 7], [.reg 8 .t_i64 [none]], [(.ex 0, []), (.ret, [.reg 4 .t_i64 [none]])], []⟩)])]) mixed .nil .nil Tryz.func116 (by kernel_rfl) (by kernel_rfl)

def sl_Contains_int (N : Nat) (x0 : List Int) (x1 : Int) : Option Bool :=
  (sl_Index_int N x0 x1).bind fun (r2 : Int) => some (decide (r2 ≥ (0 : Int)))
theorem d_sl_Contains_int (N : Nat) : DenF Tryz.prog 75 ⟨[.l_i64, .t_i64], [.t_bool], [[none]], sl_Contains_int N⟩ :=
  den_of (N := N) (gam := [(116, ⟨[.l_i64, .t_i64], [.t_i64], [[none]], sl_Index_int N⟩)]) (txt := []) (hints := []) mixed (.cons (d_sl_Index_int N) .nil) .nil Tryz.func75 (by kernel_rfl) (by kernel_rfl)

def inspect_Right (N : Nat) (x0 : Checklist) : Option Int :=
 
  (bif decide ((↑x0.Items.length : Int) > (64 : Int)) then some true
      else some (decide ((↑x0.Signs.length : Int) > (200 : Int)))).bind
    fun (r1 : Bool) =>
    bif r1 then some (4 : Int)
    else
      (bif decide (x0.Every < (1 : Int)) then some true else some (decide (x0.Every > (604800 : Int)))).bind
        fun (r2 : Bool) =>
        bif r2 then some (2 : Int)
        else
          (whileF N
                (fun (p3 : Int) =>
                  bif decide (p3 < (↑x0.Items.length : Int)) then
                    bif decide ((0 : Int) ≤ p3) && decide (p3 < (↑x0.Items.length : Int)) then
                      (bif decide (x0.Items.getD p3.toNat (0 : Int) < (1 : Int)) then some true
                          else some (decide (x0.Items.getD p3.toNat (0 : Int) > (9999 : Int)))).bind
                        fun (r4 : Bool) =>
                        bif r4 then some (Sum.inr (Sum.inr (2 : Int)))
                        else
                          bif decide ((0 : Int) ≤ p3) && decide (p3 ≤ (↑x0.Items.length : Int)) then
                            (sl_Contains_int N (List.take p3.toNat x0.Items) (x0.Items.getD p3.toNat (0 : Int))).bind
                              fun (r5 : Bool) =>
                              bif r5 then some (Sum.inr (Sum.inr (7 : Int)))
                              else some (Sum.inl (IntKind.i64.wrap (p3 + (1 : Int))))
                          else none
                    else none
                  else some (Sum.inr (Sum.inl ())))
                (0 : Int)).bind
            fun (r6 : Unit ⊕ Int) =>
            Sum.elim
              (fun (p7 : Unit) =>
                (whileF N
                      (fun (p8 : Int) =>
                        bif decide (p8 < (↑x0.Signs.length : Int)) then
                          bif decide ((0 : Int) ≤ p8) && decide (p8 < (↑x0.Signs.length : Int)) then
                            (sl_Contains_int N x0.Items (x0.Signs.getD p8.toNat z_Sign).Item).bind fun (r9 : Bool) =>
                              bif !r9 then some (Sum.inr (Sum.inr (8 : Int)))
                              else
                                (bif decide ((x0.Signs.getD p8.toNat z_Sign).By < (1 : Int)) then some true
                                    else some (decide ((x0.Signs.getD p8.toNat z_Sign).By > (9999 : Int)))).bind
                                  fun (r10 : Bool) =>
                                  bif r10 then some (Sum.inr (Sum.inr (17 : Int)))
                                  else
                                    (bif decide ((x0.Signs.getD p8.toNat z_Sign).At < (0 : Int)) then some true
                                        else some (decide ((x0.Signs.getD p8.toNat z_Sign).At > (20000000 : Int)))).bind
                                      fun (r11 : Bool) =>
                                      bif r11 then some (Sum.inr (Sum.inr (2 : Int)))
                                      else
                                        (bif decide (p8 > (0 : Int)) then
                                              bif
                                                  decide ((0 : Int) ≤ IntKind.i64.wrap (p8 - (1 : Int))) &&
                                                    decide
                                                      (IntKind.i64.wrap (p8 - (1 : Int)) <
                                                        (↑x0.Signs.length : Int)) then
                                                some
                                                  (decide
                                                    ((x0.Signs.getD p8.toNat z_Sign).At <
                                                      (x0.Signs.getD (IntKind.i64.wrap (p8 - (1 : Int))).toNat
                                                          z_Sign).At))
                                              else none
                                            else some false).bind
                                          fun (r12 : Bool) =>
                                          bif r12 then some (Sum.inr (Sum.inr (11 : Int)))
                                          else some (Sum.inl (IntKind.i64.wrap (p8 + (1 : Int))))
                          else none
                        else some (Sum.inr (Sum.inl ())))
                      (0 : Int)).bind
                  fun (r13 : Unit ⊕ Int) =>
                  Sum.elim (fun (p14 : Unit) => some (0 : Int)) (fun (p15 : Int) => some p15) r13)
              (fun (p16 : Int) => some p16) r6
theorem d_inspect_Right (N : Nat) : DenF Tryz.prog 40 ⟨[.t_Checklist], [.t_i64], [[none]], inspect_Right N⟩ :=
  den_of (N := N) (gam := [(75, ⟨[.l_i64, .t_i64], [.t_bool], [[none]], sl_Contains_int N⟩)]) (txt := []) (hints := [(40, [([0, 0, 1], ⟨[1], [], [(.nrm, [.reg 16 .t_bool [none]])], []⟩), ([0, 0, 1, 1], ⟨[1], [], [(.nrm, [.reg 24 .t_bool [none]])], []⟩), ([0, 1, 0, 1, 1, 1], ⟨[1, 26, 27], [.reg 28 .t_i64 [none]], [(.ex 0, []), (.ret, [.reg 2 .t_i64 [none]])], []⟩), ([0, 0, 1, 0, 0, 1, 1, 0, 0, 1, 0, 1, 1, 1], ⟨[1, 3, 4, 26, 27, 28], [], [(.nrm, [.reg 38 .t_bool [none]])], []⟩), ([0, 1, 0, 1, 1, 1, 1], ⟨[1, 47, 48], [.reg 49 .t_i64 [none]], [(.ex 2, []), (.ret, [.reg 2 .t_i64 [none]])], []⟩), ([0, 0, 1, 1, 0, 0, 1, 1, 0, 0, 1, 0, 1, 1, 1, 1], ⟨[1, 5, 6, 47, 48, 49], [], [(.nrm, [.reg 67 .t_bool [none]])], []⟩), ([0, 0, 1, 1, 1, 0, 0, 1, 1, 0, 0, 1, 0, 1, 1, 1, 1], ⟨[1, 5, 6, 47, 48, 49], [], [(.nrm, [.reg 75 .t_bool [none]])], []⟩), ([0, 1, 1, 1, 1, 0, 0, 1, 1, 0, 0, 1, 0, 1, 1, 1, 1], ⟨[1, 47, 48, 49], [], [(.nrm, [.reg 89 .t_bool [none]])], []⟩)])]) mixed (.cons (d_sl_Contains_int N) .nil) .nil Tryz.func40 (by kernel_rfl) (by kernel_rfl)

def sl_Clone_Brake (N : Nat) (l : List Brake) : Option (List Brake) := bif decide ((0 + l.length) * 40 ≤ 140737488355328) then some l else none
theorem ca_sl_Clone_Brake (N : Nat) (l : List Brake) (b : Bool) : ev (⟨Tryz.prog, N, lkF []⟩ : Ctx) (⟨lkT [], lkH []⟩ : Env2) 100 false 81 Tryz.f81.ntmps [] ((clonePat (Tryz.f81.body.getD .skip)).getD (.skip, 0, default, default, .skip, .skip)).2.2.2.2.1 (Ress [TI.l_Brake]) ⟨(4, .lit (.bool b)) :: (3, .sl ⟨TI.t_Brake, l⟩) :: [(2, .row 0), (0, .sl ⟨TI.t_Brake, l⟩)], [], [(0, .row false 89 ⟨TI.t_Brake, []⟩)], [], 1⟩ (seqK (fun s => ev (⟨Tryz.prog, N, lkF []⟩ : Ctx) (⟨lkT [], lkH []⟩ : Env2) 100 false 81 Tryz.f81.ntmps [] ((clonePat (Tryz.f81.body.getD .skip)).getD (.skip, 0, default, default, .skip, .skip)).2.2.2.2.2 (Ress [TI.l_Brake]) s (finK Tryz.prog [TI.l_Brake] [[some 89]] Tryz.f81.results.toList)) (finK Tryz.prog [TI.l_Brake] [[some 89]] Tryz.f81.results.toList)) = cond b (some []) (sl_Clone_Brake N l) := by kernel_rfl
theorem d_sl_Clone_Brake (N : Nat) : DenF Tryz.prog 81 ⟨[TI.l_Brake], [TI.l_Brake], [[some 89]], sl_Clone_Brake N⟩ := by
  refine clone_den (cx := (⟨Tryz.prog, N, lkF []⟩ : Ctx)) (e2 := (⟨lkT [], lkH []⟩ : Env2)) (c := (Tryz.f81.body.getD .skip)) (R0 := ((clonePat (Tryz.f81.body.getD .skip)).getD (.skip, 0, default, default, .skip, .skip)).1) (id := ((clonePat (Tryz.f81.body.getD .skip)).getD (.skip, 0, default, default, .skip, .skip)).2.1) (o1 := ((clonePat (Tryz.f81.body.getD .skip)).getD (.skip, 0, default, default, .skip, .skip)).2.2.1) (o2 := ((clonePat (Tryz.f81.body.getD .skip)).getD (.skip, 0, default, default, .skip, .skip)).2.2.2.1) (C := ((clonePat (Tryz.f81.body.getD .skip)).getD (.skip, 0, default, default, .skip, .skip)).2.2.2.2.1) (T := ((clonePat (Tryz.f81.body.getD .skip)).getD (.skip, 0, default, default, .skip, .skip)).2.2.2.2.2) (t := 26) (t' := 26) (e := 89) mixed (fun f F h => by cases h) (fun f F h => by cases h) Tryz.func81 (by kernel_rfl) (by kernel_rfl) (by kernel_rfl) (by kernel_rfl) (by kernel_rfl) (by kernel_rfl) (by kernel_rfl) (by kernel_rfl) (by kernel_rfl) (by kernel_rfl) (Nat.le_of_ble_eq_true (by kernel_rfl)) rfl (fun q => ⟨[(2, .row 0), (0, .sl q)], [], [(0, .row false 89 ⟨TI.t_Brake, []⟩)], [], 1⟩) (fun cs h => ?_) (fun q => by kernel_rfl) (fun q => rfl) (fun x q b r hx hF hb => ?_)
  · obtain ⟨t0, ts, rfl, h0, h⟩ := fits_cons h
    obtain rfl := fits_nil h
    refine ⟨⟨TI.t_Brake, gl TI.t_Brake t0⟩, by rw [fit_sl h0], ?_⟩
    exact Nat.le_of_ble_eq_true rfl
  · injection hx with hx
    injection hx with hx
    subst hx
    rw [show _ = _ from ca_sl_Clone_Brake N x b]
    cases b with
    | false => exact hF
    | true =>
      have hx0 : x = [] := List.eq_nil_of_length_eq_zero (hb rfl)
      subst hx0
      exact hF

def sl_Clone_Contact (N : Nat) (l : List Contact) : Option (List Contact) := bif decide ((0 + l.length) * 24 ≤ 140737488355328) then some l else none
theorem ca_sl_Clone_Contact (N : Nat) (l : List Contact) (b : Bool) : ev (⟨Tryz.prog, N, lkF []⟩ : Ctx) (⟨lkT [], lkH []⟩ : Env2) 100 false 82 Tryz.f82.ntmps [] ((clonePat (Tryz.f82.body.getD .skip)).getD (.skip, 0, default, default, .skip, .skip)).2.2.2.2.1 (Ress [TI.l_Contact]) ⟨(4, .lit (.bool b)) :: (3, .sl ⟨TI.t_Contact, l⟩) :: [(2, .row 0), (0, .sl ⟨TI.t_Contact, l⟩)], [], [(0, .row false 92 ⟨TI.t_Contact, []⟩)], [], 1⟩ (seqK (fun s => ev (⟨Tryz.prog, N, lkF []⟩ : Ctx) (⟨lkT [], lkH []⟩ : Env2) 100 false 82 Tryz.f82.ntmps [] ((clonePat (Tryz.f82.body.getD .skip)).getD (.skip, 0, default, default, .skip, .skip)).2.2.2.2.2 (Ress [TI.l_Contact]) s (finK Tryz.prog [TI.l_Contact] [[some 92]] Tryz.f82.results.toList)) (finK Tryz.prog [TI.l_Contact] [[some 92]] Tryz.f82.results.toList)) = cond b (some []) (sl_Clone_Contact N l) := by kernel_rfl
theorem d_sl_Clone_Contact (N : Nat) : DenF Tryz.prog 82 ⟨[TI.l_Contact], [TI.l_Contact], [[some 92]], sl_Clone_Contact N⟩ := by
  refine clone_den (cx := (⟨Tryz.prog, N, lkF []⟩ : Ctx)) (e2 := (⟨lkT [], lkH []⟩ : Env2)) (c := (Tryz.f82.body.getD .skip)) (R0 := ((clonePat (Tryz.f82.body.getD .skip)).getD (.skip, 0, default, default, .skip, .skip)).1) (id := ((clonePat (Tryz.f82.body.getD .skip)).getD (.skip, 0, default, default, .skip, .skip)).2.1) (o1 := ((clonePat (Tryz.f82.body.getD .skip)).getD (.skip, 0, default, default, .skip, .skip)).2.2.1) (o2 := ((clonePat (Tryz.f82.body.getD .skip)).getD (.skip, 0, default, default, .skip, .skip)).2.2.2.1) (C := ((clonePat (Tryz.f82.body.getD .skip)).getD (.skip, 0, default, default, .skip, .skip)).2.2.2.2.1) (T := ((clonePat (Tryz.f82.body.getD .skip)).getD (.skip, 0, default, default, .skip, .skip)).2.2.2.2.2) (t := 27) (t' := 27) (e := 92) mixed (fun f F h => by cases h) (fun f F h => by cases h) Tryz.func82 (by kernel_rfl) (by kernel_rfl) (by kernel_rfl) (by kernel_rfl) (by kernel_rfl) (by kernel_rfl) (by kernel_rfl) (by kernel_rfl) (by kernel_rfl) (by kernel_rfl) (Nat.le_of_ble_eq_true (by kernel_rfl)) rfl (fun q => ⟨[(2, .row 0), (0, .sl q)], [], [(0, .row false 92 ⟨TI.t_Contact, []⟩)], [], 1⟩) (fun cs h => ?_) (fun q => by kernel_rfl) (fun q => rfl) (fun x q b r hx hF hb => ?_)
  · obtain ⟨t0, ts, rfl, h0, h⟩ := fits_cons h
    obtain rfl := fits_nil h
    refine ⟨⟨TI.t_Contact, gl TI.t_Contact t0⟩, by rw [fit_sl h0], ?_⟩
    exact Nat.le_of_ble_eq_true rfl
  · injection hx with hx
    injection hx with hx
    subst hx
    rw [show _ = _ from ca_sl_Clone_Contact N x b]
    cases b with
    | false => exact hF
    | true =>
      have hx0 : x = [] := List.eq_nil_of_length_eq_zero (hb rfl)
      subst hx0
      exact hF

def sl_Clone_int (N : Nat) (l : List Int) : Option (List Int) := bif decide ((0 + l.length) * 8 ≤ 140737488355328) then some l else none
theorem ca_sl_Clone_int (N : Nat) (l : List Int) (b : Bool) : ev (⟨Tryz.prog, N, lkF []⟩ : Ctx) (⟨lkT [], lkH []⟩ : Env2) 100 false 83 Tryz.f83.ntmps [] ((clonePat (Tryz.f83.body.getD .skip)).getD (.skip, 0, default, default, .skip, .skip)).2.2.2.2.1 (Ress [TI.l_i64]) ⟨(4, .lit (.bool b)) :: (3, .sl ⟨TI.t_i64, l⟩) :: [(2, .row 0), (0, .sl ⟨TI.t_i64, l⟩)], [], [(0, .row false 3 ⟨TI.t_i64, []⟩)], [], 1⟩ (seqK (fun s => ev (⟨Tryz.prog, N, lkF []⟩ : Ctx) (⟨lkT [], lkH []⟩ : Env2) 100 false 83 Tryz.f83.ntmps [] ((clonePat (Tryz.f83.body.getD .skip)).getD (.skip, 0, default, default, .skip, .skip)).2.2.2.2.2 (Ress [TI.l_i64]) s (finK Tryz.prog [TI.l_i64] [[some 3]] Tryz.f83.results.toList)) (finK Tryz.prog [TI.l_i64] [[some 3]] Tryz.f83.results.toList)) = cond b (some []) (sl_Clone_int N l) := by kernel_rfl
theorem d_sl_Clone_int (N : Nat) : DenF Tryz.prog 83 ⟨[TI.l_i64], [TI.l_i64], [[some 3]], sl_Clone_int N⟩ := by
  refine clone_den (cx := (⟨Tryz.prog, N, lkF []⟩ : Ctx)) (e2 := (⟨lkT [], lkH []⟩ : Env2)) (c := (Tryz.f83.body.getD .skip)) (R0 := ((clonePat (Tryz.f83.body.getD .skip)).getD (.skip, 0, default, default, .skip, .skip)).1) (id := ((clonePat (Tryz.f83.body.getD .skip)).getD (.skip, 0, default, default, .skip, .skip)).2.1) (o1 := ((clonePat (Tryz.f83.body.getD .skip)).getD (.skip, 0, default, default, .skip, .skip)).2.2.1) (o2 := ((clonePat (Tryz.f83.body.getD .skip)).getD (.skip, 0, default, default, .skip, .skip)).2.2.2.1) (C := ((clonePat (Tryz.f83.body.getD .skip)).getD (.skip, 0, default, default, .skip, .skip)).2.2.2.2.1) (T := ((clonePat (Tryz.f83.body.getD .skip)).getD (.skip, 0, default, default, .skip, .skip)).2.2.2.2.2) (t := 32) (t' := 32) (e := 3) mixed (fun f F h => by cases h) (fun f F h => by cases h) Tryz.func83 (by kernel_rfl) (by kernel_rfl) (by kernel_rfl) (by kernel_rfl) (by kernel_rfl) (by kernel_rfl) (by kernel_rfl) (by kernel_rfl) (by kernel_rfl) (by kernel_rfl) (Nat.le_of_ble_eq_true (by kernel_rfl)) rfl (fun q => ⟨[(2, .row 0), (0, .sl q)], [], [(0, .row false 3 ⟨TI.t_i64, []⟩)], [], 1⟩) (fun cs h => ?_) (fun q => by kernel_rfl) (fun q => rfl) (fun x q b r hx hF hb => ?_)
  · obtain ⟨t0, ts, rfl, h0, h⟩ := fits_cons h
    obtain rfl := fits_nil h
    refine ⟨⟨TI.t_i64, gl TI.t_i64 t0⟩, by rw [fit_sl h0], ?_⟩
    exact Nat.le_of_ble_eq_true rfl
  · injection hx with hx
    injection hx with hx
    subst hx
    rw [show _ = _ from ca_sl_Clone_int N x b]
    cases b with
    | false => exact hF
    | true =>
      have hx0 : x = [] := List.eq_nil_of_length_eq_zero (hb rfl)
      subst hx0
      exact hF

def sl_Clone_Sign (N : Nat) (l : List Sign) : Option (List Sign) := bif decide ((0 + l.length) * 24 ≤ 140737488355328) then some l else none
theorem ca_sl_Clone_Sign (N : Nat) (l : List Sign) (b : Bool) : ev (⟨Tryz.prog, N, lkF []⟩ : Ctx) (⟨lkT [], lkH []⟩ : Env2) 100 false 84 Tryz.f84.ntmps [] ((clonePat (Tryz.f84.body.getD .skip)).getD (.skip, 0, default, default, .skip, .skip)).2.2.2.2.1 (Ress [TI.l_Sign]) ⟨(4, .lit (.bool b)) :: (3, .sl ⟨TI.t_Sign, l⟩) :: [(2, .row 0), (0, .sl ⟨TI.t_Sign, l⟩)], [], [(0, .row false 97 ⟨TI.t_Sign, []⟩)], [], 1⟩ (seqK (fun s => ev (⟨Tryz.prog, N, lkF []⟩ : Ctx) (⟨lkT [], lkH []⟩ : Env2) 100 false 84 Tryz.f84.ntmps [] ((clonePat (Tryz.f84.body.getD .skip)).getD (.skip, 0, default, default, .skip, .skip)).2.2.2.2.2 (Ress [TI.l_Sign]) s (finK Tryz.prog [TI.l_Sign] [[some 97]] Tryz.f84.results.toList)) (finK Tryz.prog [TI.l_Sign] [[some 97]] Tryz.f84.results.toList)) = cond b (some []) (sl_Clone_Sign N l) := by kernel_rfl
theorem d_sl_Clone_Sign (N : Nat) : DenF Tryz.prog 84 ⟨[TI.l_Sign], [TI.l_Sign], [[some 97]], sl_Clone_Sign N⟩ := by
  refine clone_den (cx := (⟨Tryz.prog, N, lkF []⟩ : Ctx)) (e2 := (⟨lkT [], lkH []⟩ : Env2)) (c := (Tryz.f84.body.getD .skip)) (R0 := ((clonePat (Tryz.f84.body.getD .skip)).getD (.skip, 0, default, default, .skip, .skip)).1) (id := ((clonePat (Tryz.f84.body.getD .skip)).getD (.skip, 0, default, default, .skip, .skip)).2.1) (o1 := ((clonePat (Tryz.f84.body.getD .skip)).getD (.skip, 0, default, default, .skip, .skip)).2.2.1) (o2 := ((clonePat (Tryz.f84.body.getD .skip)).getD (.skip, 0, default, default, .skip, .skip)).2.2.2.1) (C := ((clonePat (Tryz.f84.body.getD .skip)).getD (.skip, 0, default, default, .skip, .skip)).2.2.2.2.1) (T := ((clonePat (Tryz.f84.body.getD .skip)).getD (.skip, 0, default, default, .skip, .skip)).2.2.2.2.2) (t := 33) (t' := 33) (e := 97) mixed (fun f F h => by cases h) (fun f F h => by cases h) Tryz.func84 (by kernel_rfl) (by kernel_rfl) (by kernel_rfl) (by kernel_rfl) (by kernel_rfl) (by kernel_rfl) (by kernel_rfl) (by kernel_rfl) (by kernel_rfl) (by kernel_rfl) (Nat.le_of_ble_eq_true (by kernel_rfl)) rfl (fun q => ⟨[(2, .row 0), (0, .sl q)], [], [(0, .row false 97 ⟨TI.t_Sign, []⟩)], [], 1⟩) (fun cs h => ?_) (fun q => by kernel_rfl) (fun q => rfl) (fun x q b r hx hF hb => ?_)
  · obtain ⟨t0, ts, rfl, h0, h⟩ := fits_cons h
    obtain rfl := fits_nil h
    refine ⟨⟨TI.t_Sign, gl TI.t_Sign t0⟩, by rw [fit_sl h0], ?_⟩
    exact Nat.le_of_ble_eq_true rfl
  · injection hx with hx
    injection hx with hx
    subst hx
    rw [show _ = _ from ca_sl_Clone_Sign N x b]
    cases b with
    | false => exact hF
    | true =>
      have hx0 : x = [] := List.eq_nil_of_length_eq_zero (hb rfl)
      subst hx0
      exact hF

def lift_clone (N : Nat) (x0 : LiftState) : Option LiftState :=
 
  (sl_Clone_Brake N x0.Brakes).bind fun (r1 : List Brake) =>
    (sl_Clone_Contact N x0.Chain.Contacts).bind fun (r2 : List Contact) =>
      (sl_Clone_int N x0.Line.Load).bind fun (r3 : List Int) =>
        (sl_Clone_int N x0.Queue.Groups).bind fun (r4 : List Int) =>
          (sl_Clone_int N x0.Checks.Items).bind fun (r5 : List Int) =>
            (sl_Clone_Sign N x0.Checks.Signs).bind fun (r6 : List Sign) =>
              some
                (LiftState.mk x0.Lift x0.Motor x0.Drive r1 (Chain.mk r2 x0.Chain.Key) x0.Wind
                  (Line.mk x0.Line.Loop x0.Line.Spacing x0.Line.Offset r3) (Queue.mk r4 x0.Queue.Singles)
                  (Checklist.mk r5 x0.Checks.Every r6) x0.Time x0.Mode x0.Up x0.Off)
theorem d_lift_clone (N : Nat) : DenF Tryz.prog 52 ⟨[.t_LiftState], [.t_LiftState], [[none, none, none, none, none, none, none, none, none, none, none, none, none, none, none, none, some 89, some 92, none, none, none, none, none, none, none, none, none, some 3, some 3, none, some 3, none, some 97, none, none, none, none]], lift_clone N⟩ :=
  den_of (N := N) (gam := [(81, ⟨[.l_Brake], [.l_Brake], [[some 89]], sl_Clone_Brake N⟩), (82, ⟨[.l_Contact], [.l_Contact], [[some 92]], sl_Clone_Contact N⟩), (83, ⟨[.l_i64], [.l_i64], [[some 3]], sl_Clone_int N⟩), (84, ⟨[.l_Sign], [.l_Sign], [[some 97]], sl_Clone_Sign N⟩)]) (txt := []) (hints := []) mixed (.cons (d_sl_Clone_Brake N) (.cons (d_sl_Clone_Contact N) (.cons (d_sl_Clone_int N) (.cons (d_sl_Clone_Sign N) .nil)))) .nil Tryz.func52 (by kernel_rfl) (by kernel_rfl)

def lift_New (N : Nat) (x0 : Lift) (x1 : Motor) (x2 : List Brake) (x3 : Chain) (x4 : Alarm) (x5 : Checklist) : Option (LiftState × Int) :=
 
  (rope_New N x0).bind fun (r6 : Line × Int) =>
    bif r6.snd != (0 : Int) then some (z_LiftState, r6.snd)
    else
      (lift_fits N x0 x1 x4 (0 : Int)).bind fun (r7 : Bool) =>
        bif !r7 then some (z_LiftState, (1 : Int))
        else
          (brake_Right N x2).bind fun (r8 : Int) =>
            bif r8 != (0 : Int) then some (z_LiftState, r8)
            else
              (chain_Right N x3).bind fun (r9 : Int) =>
                bif r9 != (0 : Int) then some (z_LiftState, r9)
                else
                  (inspect_Right N x5).bind fun (r10 : Int) =>
                    bif r10 != (0 : Int) then some (z_LiftState, r10)
                    else
                      (lift_clone N
                            (LiftState.mk x0 x1 z_Drive x2 x3 x4 r6.fst z_Queue x5 (0 : Int) (0 : Int) (0 : Int)
                              (0 : Int))).bind
                        fun (r11 : LiftState) => some (r11, (0 : Int))
theorem d_lift_New (N : Nat) : DenF Tryz.prog 25 ⟨[.t_Lift, .t_Motor, .l_Brake, .t_Chain, .t_Alarm, .t_Checklist], [.t_LiftState, .t_i64], [[none, none, none, none, none, none, none, none, none, none, none, none, none, none, none, none, some 89, some 92, none, none, none, none, none, none, none, none, none, some 3, some 3, none, some 3, none, some 97, none, none, none, none], [none]], lift_New N⟩ :=
  den_of (N := N) (gam := [(33, ⟨[.t_Lift], [.t_Line, .t_i64], [[none, none, none, some 3], [none]], rope_New N⟩), (34, ⟨[.t_Lift, .t_Motor, .t_Alarm, .t_i64], [.t_bool], [[none]], lift_fits N⟩), (38, ⟨[.l_Brake], [.t_i64], [[none]], brake_Right N⟩), (39, ⟨[.t_Chain], [.t_i64], [[none]], chain_Right N⟩), (40, ⟨[.t_Checklist], [.t_i64], [[none]], inspect_Right N⟩), (52, ⟨[.t_LiftState], [.t_LiftState], [[none, none, none, none, none, none, none, none, none, none, none, none, none, none, none, none, some 89, some 92, none, none, none, none, none, none, none, none, none, some 3, some 3, none, some 3, none, some 97, none, none, none, none]], lift_clone N⟩)]) (txt := []) (hints := []) mixed (.cons (d_rope_New N) (.cons (d_lift_fits N) (.cons (d_brake_Right N) (.cons (d_chain_Right N) (.cons (d_inspect_Right N) (.cons (d_lift_clone N) .nil)))))) .nil Tryz.func25 (by kernel_rfl) (by kernel_rfl)

def l20_made (N : Nat) (x0 : Make) : Option (LiftState × Int) :=
 
  (lift_New N x0.Lift x0.Motor x0.Brakes x0.Chain x0.Wind x0.Checks).bind fun (r1 : LiftState × Int) => some r1
theorem d_l20_made (N : Nat) : DenF Tryz.prog 8 ⟨[.t_Make], [.t_LiftState, .t_i64], [[none, none, none, none, none, none, none, none, none, none, none, none, none, none, none, none, some 89, some 92, none, none, none, none, none, none, none, none, none, some 3, some 3, none, some 3, none, some 97, none, none, none, none], [none]], l20_made N⟩ :=
  den_of (N := N) (gam := [(25, ⟨[.t_Lift, .t_Motor, .l_Brake, .t_Chain, .t_Alarm, .t_Checklist], [.t_LiftState, .t_i64], [[none, none, none, none, none, none, none, none, none, none, none, none, none, none, none, none, some 89, some 92, none, none, none, none, none, none, none, none, none, some 3, some 3, none, some 3, none, some 97, none, none, none, none], [none]], lift_New N⟩)]) (txt := []) (hints := []) mixed (.cons (d_lift_New N) .nil) .nil Tryz.func8 (by kernel_rfl) (by kernel_rfl)

def rope_People (N : Nat) (x0 : Line) : Option Int :=
 
  (whileF N
        (fun (p1 : Int × Int) =>
          bif decide (p1.snd < (↑x0.Load.length : Int)) then
            bif decide ((0 : Int) ≤ p1.snd) && decide (p1.snd < (↑x0.Load.length : Int)) then
              some
                (Sum.inl
                  (IntKind.i64.wrap (p1.fst + x0.Load.getD (Int.toNat p1.snd) (0 : Int)),
                    IntKind.i64.wrap (p1.snd + (1 : Int))))
            else none
          else some (Sum.inr p1.fst))
        ((0 : Int), (0 : Int))).bind
    fun (r2 : Int) => some r2
theorem d_rope_People (N : Nat) : DenF Tryz.prog 41 ⟨[.t_Line], [.t_i64], [[none]], rope_People N⟩ :=
  den_of (N := N) (gam := []) (txt := []) (hints := [(41, [([0, 1, 0, 1, 1], ⟨[7, 8], [.reg 3 .t_i64 [none], .reg 9 .t_i64 [none]], [(.ex 0, [.reg 3 .t_i64 [none]])], []⟩)])]) mixed .nil .nil Tryz.func41 (by kernel_rfl) (by kernel_rfl)

def lift_Load (N : Nat) (x0 : LiftState) : Option Int :=
 
  (rope_People N x0.Line).bind fun (r1 : Int) =>
    some (IntKind.i64.wrap (IntKind.i64.wrap ((10 : Int) * x0.Lift.Length) + IntKind.i64.wrap ((100 : Int) * r1)))
theorem d_lift_Load (N : Nat) : DenF Tryz.prog 16 ⟨[.t_LiftState], [.t_i64], [[none]], lift_Load N⟩ :=
  den_of (N := N) (gam := [(41, ⟨[.t_Line], [.t_i64], [[none]], rope_People N⟩)]) (txt := []) (hints := []) mixed (.cons (d_rope_People N) .nil) .nil Tryz.func16 (by kernel_rfl) (by kernel_rfl)

def drive_Valid (N : Nat) (x0 : Motor) (x1 : Drive) : Option Bool :=
 
  ((drive_within N x1.State (0 : Int) (3 : Int)).bind fun (r2 : Bool) =>
        bif !r2 then some true
        else
          (drive_within N x1.Speed (0 : Int) x0.Max).bind fun (r3 : Bool) =>
            bif !r3 then some true
            else (drive_within N x1.Moved (0 : Int) (1125899906842624 : Int)).bind fun (r4 : Bool) => some !r4).bind
    fun (r5 : Bool) =>
    bif r5 then some false
    else
      (bif x1.State == (0 : Int) then some (x1.Speed != (0 : Int)) else some false).bind fun (r6 : Bool) =>
        bif r6 then some false
        else
          bif x1.State == (1 : Int) then (drive_within N x1.Target (1 : Int) x0.Max).bind fun (r7 : Bool) => some r7
          else some (x1.Target == (0 : Int))
theorem d_drive_Valid (N : Nat) : DenF Tryz.prog 35 ⟨[.t_Motor, .t_Drive], [.t_bool], [[none]], drive_Valid N⟩ :=
  den_of (N := N) (gam := [(70, ⟨[.t_i64, .t_i64, .t_i64], [.t_bool], [[none]], drive_within N⟩)]) (txt := []) (hints := [(35, [([0, 0, 1], ⟨[2, 3], [], [(.nrm, [.reg 22 .t_bool [none]])], []⟩), ([0, 0, 1, 1], ⟨[2, 3], [], [(.nrm, [.reg 30 .t_bool [none]])], []⟩)])]) mixed (.cons (d_drive_within N) .nil) .nil Tryz.func35 (by kernel_rfl) (by kernel_rfl)
end Go.Proofs.YthjmbcnohgaihaaGreat
