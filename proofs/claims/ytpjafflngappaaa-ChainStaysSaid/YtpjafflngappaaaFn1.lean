/- Written by a program (gen.py, asm.py): what each function computes, as a plain function, and that its text computes it. No condition. -/
import Derived.Test.YtpjafflngappaaaSg
import Derived.Test.YtpjafflngappaaaCmo
namespace Go.Proofs.Ytpjafflngappaaa
open Go.Cm Go.Proofs
set_option linter.unusedVariables false
set_option maxRecDepth 100000

def l16_three (N : Nat) : Option Chain :=
 
  (some
        [Contact.mk (1 : Int) false true false (0 : Int), Contact.mk (2 : Int) false false true (0 : Int),
          Contact.mk (3 : Int) false true true (50 : Int)]).bind
    fun (r0 : List Contact) => some (Chain.mk r0 (5 : Int))
theorem d_l16_three (N : Nat) : DenF Try.prog 33 ⟨[], [.t_Chain], [[some 48, none]], l16_three N⟩ :=
  den_of (N := N) (gam := []) (txt := []) (hints := []) mixed .nil .nil Try.func33 (by kernel_rfl) (by kernel_rfl)

def chain_find (N : Nat) (x0 : Chain) (x1 : Int) : Option Int :=
 
  (whileF N
        (fun (p2 : Int) =>
          bif decide (p2 < (↑x0.Contacts.length : Int)) then
            bif decide ((0 : Int) ≤ p2) && decide (p2 < (↑x0.Contacts.length : Int)) then
              bif (x0.Contacts.getD p2.toNat z_Contact).ID == x1 then some (Sum.inr (Sum.inr p2))
              else some (Sum.inl (IntKind.i64.wrap (p2 + (1 : Int))))
            else none
          else some (Sum.inr (Sum.inl ())))
        (0 : Int)).bind
    fun (r3 : Unit ⊕ Int) => Sum.elim (fun (p4 : Unit) => some (-1 : Int)) (fun (p5 : Int) => some p5) r3
theorem d_chain_find (N : Nat) : DenF Try.prog 38 ⟨[.t_Chain, .t_i64], [.t_i64], [[none]], chain_find N⟩ :=
  den_of (N := N) (gam := []) (txt := [(45, Try.f45), (44, Try.f44)]) (hints := [(44, [([0, 1, 0, 1], ⟨[0, 1, 7], [.reg 8 .t_i64 [none]], [(.ex 0, []), (.ret, [.reg 4 .t_i64 [none]])]⟩)])]) mixed .nil (.cons Try.func45 (.cons Try.func44 .nil)) Try.func38 (by kernel_rfl) (by kernel_rfl)

def sl_Clone_Contact (N : Nat) (l : List Contact) : Option (List Contact) := bif decide ((0 + l.length) * 24 ≤ 140737488355328) then some l else none
theorem ca_sl_Clone_Contact (N : Nat) (l : List Contact) (b : Bool) : ev (⟨Try.prog, N, lkF []⟩ : Ctx) (⟨lkT [], lkH []⟩ : Env2) 100 false 46 Try.f46.ntmps [] ((clonePat (Try.f46.body.getD .skip)).getD (.skip, 0, default, default, .skip, .skip)).2.2.2.2.1 (Ress [TI.l_Contact]) ⟨(4, .lit (.bool b)) :: (3, .sl ⟨TI.t_Contact, l⟩) :: [(2, .row 0), (0, .sl ⟨TI.t_Contact, l⟩)], [], [(0, .row false 48 ⟨TI.t_Contact, []⟩)], [], 1⟩ (seqK (fun s => ev (⟨Try.prog, N, lkF []⟩ : Ctx) (⟨lkT [], lkH []⟩ : Env2) 100 false 46 Try.f46.ntmps [] ((clonePat (Try.f46.body.getD .skip)).getD (.skip, 0, default, default, .skip, .skip)).2.2.2.2.2 (Ress [TI.l_Contact]) s (finK Try.prog [TI.l_Contact] [[some 48]] Try.f46.results.toList)) (finK Try.prog [TI.l_Contact] [[some 48]] Try.f46.results.toList)) = cond b (some []) (sl_Clone_Contact N l) := by kernel_rfl
theorem d_sl_Clone_Contact (N : Nat) : DenF Try.prog 46 ⟨[TI.l_Contact], [TI.l_Contact], [[some 48]], sl_Clone_Contact N⟩ := by
  refine clone_den (cx := (⟨Try.prog, N, lkF []⟩ : Ctx)) (e2 := (⟨lkT [], lkH []⟩ : Env2)) (c := (Try.f46.body.getD .skip)) (R0 := ((clonePat (Try.f46.body.getD .skip)).getD (.skip, 0, default, default, .skip, .skip)).1) (id := ((clonePat (Try.f46.body.getD .skip)).getD (.skip, 0, default, default, .skip, .skip)).2.1) (o1 := ((clonePat (Try.f46.body.getD .skip)).getD (.skip, 0, default, default, .skip, .skip)).2.2.1) (o2 := ((clonePat (Try.f46.body.getD .skip)).getD (.skip, 0, default, default, .skip, .skip)).2.2.2.1) (C := ((clonePat (Try.f46.body.getD .skip)).getD (.skip, 0, default, default, .skip, .skip)).2.2.2.2.1) (T := ((clonePat (Try.f46.body.getD .skip)).getD (.skip, 0, default, default, .skip, .skip)).2.2.2.2.2) (t := 22) (t' := 22) (e := 48) mixed (fun f F h => by cases h) (fun f F h => by cases h) Try.func46 (by kernel_rfl) (by kernel_rfl) (by kernel_rfl) (by kernel_rfl) (by kernel_rfl) (by kernel_rfl) (by kernel_rfl) (by kernel_rfl) (by kernel_rfl) (by kernel_rfl) (Nat.le_of_ble_eq_true (by kernel_rfl)) rfl (fun q => ⟨[(2, .row 0), (0, .sl q)], [], [(0, .row false 48 ⟨TI.t_Contact, []⟩)], [], 1⟩) (fun cs h => ?_) (fun q => by kernel_rfl) (fun q => rfl) (fun x q b r hx hF hb => ?_)
  · obtain ⟨t0, ts, rfl, h0, h⟩ := fits_cons h
    obtain rfl := fits_nil h
    refine ⟨⟨TI.t_Contact, gl TI.t_Contact t0⟩, by rw [fit_sl h0], ?_⟩
    exact Nat.le_of_ble_eq_true rfl
  · injection hx with hx
    injection hx with hx
    subst hx
    rw [show _ = _ from ca_sl_Clone_Contact N x b]
    cases b with
    | false => exact hF
    | true =>
      have hx0 : x = [] := List.eq_nil_of_length_eq_zero (hb rfl)
      subst hx0
      exact hF

def chain_clone (N : Nat) (x0 : Chain) : Option Chain :=
  (sl_Clone_Contact N x0.Contacts).bind fun (r1 : List Contact) => some (Chain.mk r1 x0.Key)
theorem d_chain_clone (N : Nat) : DenF Try.prog 39 ⟨[.t_Chain], [.t_Chain], [[some 48, none]], chain_clone N⟩ :=
  den_of (N := N) (gam := [(46, ⟨[.l_Contact], [.l_Contact], [[some 48]], sl_Clone_Contact N⟩)]) (txt := []) (hints := []) mixed (.cons (d_sl_Clone_Contact N) .nil) .nil Try.func39 (by kernel_rfl) (by kernel_rfl)

def chain_Break (N : Nat) (x0 : Chain) (x1 : Int) : Option (Chain × Int) :=
 
  (chain_find N x0 x1).bind fun (r2 : Int) =>
    bif decide (r2 < (0 : Int)) then some (z_Chain, (8 : Int))
    else
      (chain_clone N x0).bind fun (r3 : Chain) =>
        bif decide ((0 : Int) ≤ r2) && decide (r2 < (↑r3.Contacts.length : Int)) then
          (some
                (r3.Contacts.set r2.toNat
                  (Contact.mk (r3.Contacts.getD r2.toNat z_Contact).ID (r3.Contacts.getD r2.toNat z_Contact).Critical
                    false (r3.Contacts.getD r2.toNat z_Contact).Latched
                    (r3.Contacts.getD r2.toNat z_Contact).Until))).bind
            fun (r4 : List Contact) =>
            bif decide ((0 : Int) ≤ r2) && decide (r2 < (↑r4.length : Int)) then
              (some
                    (r4.set r2.toNat
                      (Contact.mk (r4.getD r2.toNat z_Contact).ID (r4.getD r2.toNat z_Contact).Critical
                        (r4.getD r2.toNat z_Contact).Closed true (r4.getD r2.toNat z_Contact).Until))).bind
                fun (r5 : List Contact) => some (Chain.mk r5 r3.Key, (0 : Int))
            else none
        else none
theorem d_chain_Break (N : Nat) : DenF Try.prog 14 ⟨[.t_Chain, .t_i64], [.t_Chain, .t_i64], [[some 48, none], [none]], chain_Break N⟩ :=
  den_of (N := N) (gam := [(38, ⟨[.t_Chain, .t_i64], [.t_i64], [[none]], chain_find N⟩), (39, ⟨[.t_Chain], [.t_Chain], [[some 48, none]], chain_clone N⟩)]) (txt := []) (hints := []) mixed (.cons (d_chain_find N) (.cons (d_chain_clone N) .nil)) .nil Try.func14 (by kernel_rfl) (by kernel_rfl)

def chain_Make (N : Nat) (x0 : Chain) (x1 : Int) : Option (Chain × Int) :=
 
  (chain_find N x0 x1).bind fun (r2 : Int) =>
    bif decide (r2 < (0 : Int)) then some (z_Chain, (8 : Int))
    else
      (chain_clone N x0).bind fun (r3 : Chain) =>
        bif decide ((0 : Int) ≤ r2) && decide (r2 < (↑r3.Contacts.length : Int)) then
          (some
                (r3.Contacts.set r2.toNat
                  (Contact.mk (r3.Contacts.getD r2.toNat z_Contact).ID (r3.Contacts.getD r2.toNat z_Contact).Critical
                    true (r3.Contacts.getD r2.toNat z_Contact).Latched
                    (r3.Contacts.getD r2.toNat z_Contact).Until))).bind
            fun (r4 : List Contact) => some (Chain.mk r4 r3.Key, (0 : Int))
        else none
theorem d_chain_Make (N : Nat) : DenF Try.prog 16 ⟨[.t_Chain, .t_i64], [.t_Chain, .t_i64], [[some 48, none], [none]], chain_Make N⟩ :=
  den_of (N := N) (gam := [(38, ⟨[.t_Chain, .t_i64], [.t_i64], [[none]], chain_find N⟩), (39, ⟨[.t_Chain], [.t_Chain], [[some 48, none]], chain_clone N⟩)]) (txt := []) (hints := []) mixed (.cons (d_chain_find N) (.cons (d_chain_clone N) .nil)) .nil Try.func16 (by kernel_rfl) (by kernel_rfl)

def chain_isPerson (N : Nat) (x0 : Int) : Option Bool :=
 
  (bif decide (x0 ≥ (1 : Int)) then some (decide (x0 ≤ (9999 : Int))) else some false).bind fun (r1 : Bool) => some r1
theorem d_chain_isPerson (N : Nat) : DenF Try.prog 41 ⟨[.t_i64], [.t_bool], [[none]], chain_isPerson N⟩ :=
  den_of (N := N) (gam := []) (txt := []) (hints := [(41, [([0, 1], ⟨[], [], [(.nrm, [.reg 2 .t_bool [none]])]⟩)])]) mixed .nil .nil Try.func41 (by kernel_rfl) (by kernel_rfl)

def chain_Clear (N : Nat) (x0 : Chain) (x1 x2 : Int) : Option (Chain × Int) :=
 
  (chain_find N x0 x1).bind fun (r3 : Int) =>
    bif decide (r3 < (0 : Int)) then some (z_Chain, (8 : Int))
    else
      (chain_isPerson N x2).bind fun (r4 : Bool) =>
        bif !r4 then some (z_Chain, (17 : Int))
        else
          bif decide ((0 : Int) ≤ r3) && decide (r3 < (↑x0.Contacts.length : Int)) then
            bif !(x0.Contacts.getD r3.toNat z_Contact).Closed then some (z_Chain, (10 : Int))
            else
              (chain_clone N x0).bind fun (r5 : Chain) =>
                bif decide ((0 : Int) ≤ r3) && decide (r3 < (↑r5.Contacts.length : Int)) then
                  (some
                        (r5.Contacts.set r3.toNat
                          (Contact.mk (r5.Contacts.getD r3.toNat z_Contact).ID
                            (r5.Contacts.getD r3.toNat z_Contact).Critical (r5.Contacts.getD r3.toNat z_Contact).Closed
                            false (r5.Contacts.getD r3.toNat z_Contact).Until))).bind
                    fun (r6 : List Contact) => some (Chain.mk r6 r5.Key, (0 : Int))
                else none
          else none
theorem d_chain_Clear (N : Nat) : DenF Try.prog 18 ⟨[.t_Chain, .t_i64, .t_i64], [.t_Chain, .t_i64], [[some 48, none], [none]], chain_Clear N⟩ :=
  den_of (N := N) (gam := [(38, ⟨[.t_Chain, .t_i64], [.t_i64], [[none]], chain_find N⟩), (41, ⟨[.t_i64], [.t_bool], [[none]], chain_isPerson N⟩), (39, ⟨[.t_Chain], [.t_Chain], [[some 48, none]], chain_clone N⟩)]) (txt := []) (hints := []) mixed (.cons (d_chain_find N) (.cons (d_chain_isPerson N) (.cons (d_chain_clone N) .nil))) .nil Try.func18 (by kernel_rfl) (by kernel_rfl)

def chain_Take (N : Nat) (x0 : Chain) (x1 : Int) : Option (Chain × Int) :=
 
  (chain_isPerson N x1).bind fun (r2 : Bool) =>
    bif !r2 then some (z_Chain, (17 : Int))
    else
      (bif x0.Key != (0 : Int) then some (x0.Key != x1) else some false).bind fun (r3 : Bool) =>
        bif r3 then some (z_Chain, (15 : Int))
        else
          (chain_clone N x0).bind fun (r4 : Chain) =>
            bif r4.Key == (0 : Int) then some (Chain.mk r4.Contacts x1, (0 : Int))
            else
              (whileF N
                    (fun (p5 : Int × List Contact) =>
                      bif decide (p5.fst < (↑r4.Contacts.length : Int)) then
                        bif decide ((0 : Int) ≤ p5.fst) && decide (p5.fst < (↑(List.length p5.snd) : Int)) then
                          (some
                                (List.set p5.snd (Int.toNat p5.fst)
                                  (Contact.mk (List.getD p5.snd (Int.toNat p5.fst) z_Contact).ID
                                    (List.getD p5.snd (Int.toNat p5.fst) z_Contact).Critical
                                    (List.getD p5.snd (Int.toNat p5.fst) z_Contact).Closed
                                    (List.getD p5.snd (Int.toNat p5.fst) z_Contact).Latched (0 : Int)))).bind
                            fun (r6 : List Contact) => some (Sum.inl (IntKind.i64.wrap (p5.fst + (1 : Int)), r6))
                        else none
                      else some (Sum.inr p5.snd))
                    ((0 : Int), r4.Contacts)).bind
                fun (r7 : List Contact) => some (Chain.mk r7 (0 : Int), (0 : Int))
theorem d_chain_Take (N : Nat) : DenF Try.prog 21 ⟨[.t_Chain, .t_i64], [.t_Chain, .t_i64], [[some 48, none], [none]], chain_Take N⟩ :=
  den_of (N := N) (gam := [(41, ⟨[.t_i64], [.t_bool], [[none]], chain_isPerson N⟩), (39, ⟨[.t_Chain], [.t_Chain], [[some 48, none]], chain_clone N⟩)]) (txt := []) (hints := [(21, [([0, 0, 1, 1], ⟨[1, 2, 4], [], [(.nrm, [.reg 19 .t_bool [none]])]⟩), ([0, 1, 0, 1, 1, 1, 1, 1, 1], ⟨[2, 4, 32], [.reg 33 .t_i64 [none], .rowc 2 0 .l_Contact], [(.ex 0, [.rowc 2 0 .l_Contact])]⟩)])]) mixed (.cons (d_chain_isPerson N) (.cons (d_chain_clone N) .nil)) .nil Try.func21 (by kernel_rfl) (by kernel_rfl)

def chain_Bypass (N : Nat) (x0 : Chain) (x1 x2 x3 : Int) : Option (Chain × Int) :=
 
  (chain_find N x0 x1).bind fun (r4 : Int) =>
    bif decide (r4 < (0 : Int)) then some (z_Chain, (8 : Int))
    else
      (bif x2 == (0 : Int) then some true else some (x2 != x0.Key)).bind fun (r5 : Bool) =>
        bif r5 then some (z_Chain, (17 : Int))
        else
          bif decide ((0 : Int) ≤ r4) && decide (r4 < (↑x0.Contacts.length : Int)) then
            bif (x0.Contacts.getD r4.toNat z_Contact).Critical then some (z_Chain, (13 : Int))
            else
              (whileF N
                    (fun (p6 : Int × Chain) =>
                      bif decide (p6.fst < (↑x0.Contacts.length : Int)) then
                        (bif p6.fst != r4 then
                              bif decide ((0 : Int) ≤ p6.fst) && decide (p6.fst < (↑x0.Contacts.length : Int)) then
                                some ((x0.Contacts.getD (Int.toNat p6.fst) z_Contact).Until != (0 : Int))
                              else none
                            else some false).bind
                          fun (r7 : Bool) =>
                          bif r7 then some (Sum.inr (Sum.inr ((15 : Int), z_Chain)))
                          else some (Sum.inl (IntKind.i64.wrap (p6.fst + (1 : Int)), p6.snd))
                      else some (Sum.inr (Sum.inl p6.snd)))
                    ((0 : Int), z_Chain)).bind
                fun (r8 : Chain ⊕ Int × Chain) =>
                Sum.elim
                  (fun (p9 : Chain) =>
                    (bif decide (x3 < (1 : Int)) then some true else some (decide (x3 > (20000000 : Int)))).bind
                      fun (r10 : Bool) =>
                      bif r10 then some (z_Chain, (2 : Int))
                      else
                        (chain_clone N x0).bind fun (r11 : Chain) =>
                          bif decide ((0 : Int) ≤ r4) && decide (r4 < (↑r11.Contacts.length : Int)) then
                            (some
                                  (r11.Contacts.set r4.toNat
                                    (Contact.mk (r11.Contacts.getD r4.toNat z_Contact).ID
                                      (r11.Contacts.getD r4.toNat z_Contact).Critical
                                      (r11.Contacts.getD r4.toNat z_Contact).Closed
                                      (r11.Contacts.getD r4.toNat z_Contact).Latched x3))).bind
                              fun (r12 : List Contact) => some (Chain.mk r12 r11.Key, (0 : Int))
                          else none)
                  (fun (p13 : Int × Chain) => some (p13.snd, p13.fst)) r8
          else none
theorem d_chain_Bypass (N : Nat) : DenF Try.prog 23 ⟨[.t_Chain, .t_i64, .t_i64, .t_i64], [.t_Chain, .t_i64], [[some 48, none], [none]], chain_Bypass N⟩ :=
  den_of (N := N) (gam := [(38, ⟨[.t_Chain, .t_i64], [.t_i64], [[none]], chain_find N⟩), (39, ⟨[.t_Chain], [.t_Chain], [[some 48, none]], chain_clone N⟩)]) (txt := []) (hints := [(23, [([0, 0, 1, 1, 1], ⟨[3, 4, 8, 10], [], [(.nrm, [.reg 25 .t_bool [none]])]⟩), ([0, 1, 0, 1, 1, 1, 1, 1], ⟨[3, 4, 8, 10, 36], [.reg 37 .t_i64 [none], .var 8 .t_Chain [some 48, none]], [(.ex 0, [.var 8 .t_Chain [some 48, none]]), (.ret, [.reg 9 .t_i64 [none], .var 8 .t_Chain [some 48, none]])]⟩), ([0, 1, 0, 0, 1, 1, 0, 0, 1, 0, 1, 1, 1, 1, 1], ⟨[3, 4, 8, 10, 36, 37], [], [(.nrm, [.reg 51 .t_bool [none]])]⟩), ([0, 0, 1, 1, 1, 1, 1, 1], ⟨[3, 4, 8, 10], [], [(.nrm, [.reg 59 .t_bool [none]])]⟩)])]) mixed (.cons (d_chain_find N) (.cons (d_chain_clone N) .nil)) .nil Try.func23 (by kernel_rfl) (by kernel_rfl)

def chain_rightContact_1 (N : Nat) (x0 : Contact) : Option Bool :=
  some (x0.Until != (0 : Int))
theorem d_chain_rightContact_1 (N : Nat) : DenF Try.prog 43 ⟨[.t_Contact], [.t_bool], [[none]], chain_rightContact_1 N⟩ :=
  den_of (N := N) (gam := []) (txt := []) (hints := []) mixed .nil .nil Try.func43 (by kernel_rfl) (by kernel_rfl)

def chain_rightContact (N : Nat) (x0 : Chain) (x1 : Int) : Option Int :=
 
  bif decide ((0 : Int) ≤ x1) && decide (x1 < (↑x0.Contacts.length : Int)) then
    (bif decide ((x0.Contacts.getD x1.toNat z_Contact).ID < (1 : Int)) then some true
        else
          bif decide ((x0.Contacts.getD x1.toNat z_Contact).ID > (9999 : Int)) then some true
          else
            bif decide ((x0.Contacts.getD x1.toNat z_Contact).Until < (0 : Int)) then some true
            else some (decide ((x0.Contacts.getD x1.toNat z_Contact).Until > (20000000 : Int)))).bind
      fun (r2 : Bool) =>
      bif r2 then some (2 : Int)
      else
        (chain_find N x0 (x0.Contacts.getD x1.toNat z_Contact).ID).bind fun (r3 : Int) =>
          bif decide (r3 < x1) then some (7 : Int)
          else
            (bif !(x0.Contacts.getD x1.toNat z_Contact).Closed then some !(x0.Contacts.getD x1.toNat z_Contact).Latched
                else some false).bind
              fun (r4 : Bool) =>
              bif r4 then some (10 : Int)
              else
                (bif (x0.Contacts.getD x1.toNat z_Contact).Critical then
                      some ((x0.Contacts.getD x1.toNat z_Contact).Until != (0 : Int))
                    else some false).bind
                  fun (r5 : Bool) =>
                  bif r5 then some (13 : Int)
                  else
                    bif decide ((0 : Int) ≤ x1) && decide (x1 ≤ (↑x0.Contacts.length : Int)) then
                      (whileF N
                            (fun (p6 : Int) =>
                              bif decide (p6 < (↑(List.take x1.toNat x0.Contacts).length : Int)) then
                                bif
                                    decide ((0 : Int) ≤ p6) &&
                                      decide (p6 < (↑(List.take x1.toNat x0.Contacts).length : Int)) then
                                  (chain_rightContact_1 N
                                        ((List.take x1.toNat x0.Contacts).getD p6.toNat z_Contact)).bind
                                    fun (r7 : Bool) =>
                                    bif r7 then some (Sum.inr (Sum.inr p6))
                                    else some (Sum.inl (IntKind.i64.wrap (p6 + (1 : Int))))
                                else none
                              else some (Sum.inr (Sum.inl ())))
                            (0 : Int)).bind
                        fun (r8 : Unit ⊕ Int) =>
                        Sum.elim
                          (fun (p9 : Unit) =>
                            (bif (x0.Contacts.getD x1.toNat z_Contact).Until != (0 : Int) then
                                  bif x0.Key == (0 : Int) then some true else some false
                                else some false).bind
                              fun (r10 : Bool) => bif r10 then some (15 : Int) else some (0 : Int))
                          (fun (p11 : Int) =>
                            (bif (x0.Contacts.getD x1.toNat z_Contact).Until != (0 : Int) then
                                  bif x0.Key == (0 : Int) then some true else some (decide (p11 ≥ (0 : Int)))
                                else some false).bind
                              fun (r12 : Bool) => bif r12 then some (15 : Int) else some (0 : Int))
                          r8
                    else none
  else none
theorem d_chain_rightContact (N : Nat) : DenF Try.prog 34 ⟨[.t_Chain, .t_i64], [.t_i64], [[none]], chain_rightContact N⟩ :=
  den_of (N := N) (gam := [(38, ⟨[.t_Chain, .t_i64], [.t_i64], [[none]], chain_find N⟩), (43, ⟨[.t_Contact], [.t_bool], [[none]], chain_rightContact_1 N⟩)]) (txt := [(42, Try.f42), (44, Try.f44)]) (hints := [(34, [([0, 0, 1, 1], ⟨[1, 2, 5], [], [(.nrm, [.reg 29 .t_bool [none]])]⟩), ([0, 0, 1, 1, 1, 1], ⟨[1, 2, 5], [], [(.nrm, [.reg 43 .t_bool [none]])]⟩), ([0, 0, 1, 1, 1, 1, 1], ⟨[1, 2, 5], [], [(.nrm, [.reg 50 .t_bool [none]])]⟩), ([0, 0, 1, 1, 1, 1, 1, 1, 1], ⟨[], [], [(.nrm, [.reg 66 .t_bool [none]])]⟩)]), (44, [([0, 1, 0, 1], ⟨[0, 1, 7], [.reg 8 .t_i64 [none]], [(.ex 0, []), (.ret, [.reg 4 .t_i64 [none]])]⟩)])]) mixed (.cons (d_chain_find N) (.cons (d_chain_rightContact_1 N) .nil)) (.cons Try.func42 (.cons Try.func44 .nil)) Try.func34 (by kernel_rfl) (by kernel_rfl)

def chain_Right (N : Nat) (x0 : Chain) : Option Int :=
 
  bif decide ((↑x0.Contacts.length : Int) > (32 : Int)) then some (4 : Int)
  else
    (bif decide (x0.Key < (0 : Int)) then some true else some (decide (x0.Key > (9999 : Int)))).bind fun (r1 : Bool) =>
      bif r1 then some (2 : Int)
      else
        (whileF N
              (fun (p2 : Int) =>
                bif decide (p2 < (↑x0.Contacts.length : Int)) then
                  (chain_rightContact N x0 p2).bind fun (r3 : Int) =>
                    bif r3 != (0 : Int) then some (Sum.inr (Sum.inr r3))
                    else some (Sum.inl (IntKind.i64.wrap (p2 + (1 : Int))))
                else some (Sum.inr (Sum.inl ())))
              (0 : Int)).bind
          fun (r4 : Unit ⊕ Int) => Sum.elim (fun (p5 : Unit) => some (0 : Int)) (fun (p6 : Int) => some p6) r4
theorem d_chain_Right (N : Nat) : DenF Try.prog 12 ⟨[.t_Chain], [.t_i64], [[none]], chain_Right N⟩ :=
  den_of (N := N) (gam := [(34, ⟨[.t_Chain, .t_i64], [.t_i64], [[none]], chain_rightContact N⟩)]) (txt := []) (hints := [(12, [([0, 0, 1, 1], ⟨[1], [], [(.nrm, [.reg 16 .t_bool [none]])]⟩), ([0, 1, 0, 1, 1, 1], ⟨[1, 19], [.reg 20 .t_i64 [none]], [(.ex 0, []), (.ret, [.reg 2 .t_i64 [none]])]⟩)])]) mixed (.cons (d_chain_rightContact N) .nil) .nil Try.func12 (by kernel_rfl) (by kernel_rfl)

def chain_Faults (N : Nat) (x0 : Chain) (x1 : Int) : Option ((List Int)) :=
 
  (whileF N
        (fun (p2 : List Int × Int) =>
          bif decide (p2.snd < (↑x0.Contacts.length : Int)) then
            bif decide ((0 : Int) ≤ p2.snd) && decide (p2.snd < (↑x0.Contacts.length : Int)) then
              (bif (x0.Contacts.getD (Int.toNat p2.snd) z_Contact).Latched then
                    some (decide (x1 ≥ (x0.Contacts.getD (Int.toNat p2.snd) z_Contact).Until))
                  else
                    bif !(x0.Contacts.getD (Int.toNat p2.snd) z_Contact).Closed then
                      some (decide (x1 ≥ (x0.Contacts.getD (Int.toNat p2.snd) z_Contact).Until))
                    else some false).bind
                fun (r3 : Bool) =>
                (bif r3 then
                      (some [(x0.Contacts.getD (Int.toNat p2.snd) z_Contact).ID]).bind fun (r4 : List Int) =>
                        bif decide ((List.length p2.fst + r4.length) * 8 ≤ 140737488355328) then
                          (some (p2.fst ++ r4)).bind fun (r5 : List Int) => some r5
                        else none
                    else some p2.fst).bind
                  fun (r6 : List Int) => some (Sum.inl (r6, IntKind.i64.wrap (p2.snd + (1 : Int))))
            else none
          else some (Sum.inr p2.fst))
        ([], (0 : Int))).bind
    fun (r7 : List Int) => some r7
theorem d_chain_Faults (N : Nat) : DenF Try.prog 28 ⟨[.t_Chain, .t_i64], [.l_i64], [[some 3]], chain_Faults N⟩ :=
  den_of (N := N) (gam := []) (txt := []) (hints := [(28, [([0, 1, 0, 1, 1], ⟨[1, 2, 10], [.reg 5 .l_i64 [some 3], .reg 11 .t_i64 [none]], [(.ex 0, [.reg 5 .l_i64 [some 3]])]⟩), ([0, 1, 1, 0, 0, 1, 1, 0, 0, 1, 0, 1, 1], ⟨[1, 2, 5, 7, 10, 11], [], [(.nrm, [.reg 31 .t_bool [none]])]⟩), ([1, 1, 1, 0, 0, 1, 1, 0, 0, 1, 0, 1, 1], ⟨[1, 2, 10, 11], [], [(.nrm, [.reg 5 .l_i64 [some 3]])]⟩)])]) mixed .nil .nil Try.func28 (by kernel_rfl) (by kernel_rfl)
end Go.Proofs.Ytpjafflngappaaa
