/- Written by a program (gen.py, asm.py): what each function computes, as a plain function, and that its text computes it. No condition. -/
import Derived.Test.YtpjafflngappaaaFn1
import Derived.Test.YtpjafflngappaaaCmo
namespace Go.Proofs.Ytpjafflngappaaa
open Go.Cm Go.Proofs
set_option linter.unusedVariables false
set_option maxRecDepth 100000

def r16_SameInts (N : Nat) (x0 x1 : List Int) : Option Bool :=
 
  bif (↑x0.length : Int) != (↑x1.length : Int) then some false
  else
    (whileF N
          (fun (p2 : Int) =>
            bif decide (p2 < (↑x0.length : Int)) then
              bif decide ((0 : Int) ≤ p2) && decide (p2 < (↑x0.length : Int)) then
                bif decide ((0 : Int) ≤ p2) && decide (p2 < (↑x1.length : Int)) then
                  bif x0.getD p2.toNat (0 : Int) != x1.getD p2.toNat (0 : Int) then some (Sum.inr (Sum.inr false))
                  else some (Sum.inl (IntKind.i64.wrap (p2 + (1 : Int))))
                else none
              else none
            else some (Sum.inr (Sum.inl ())))
          (0 : Int)).bind
      fun (r3 : Unit ⊕ Bool) => Sum.elim (fun (p4 : Unit) => some true) (fun (p5 : Bool) => some p5) r3
theorem d_r16_SameInts (N : Nat) : DenF Try.prog 27 ⟨[.l_i64, .l_i64], [.t_bool], [[none]], r16_SameInts N⟩ :=
  den_of (N := N) (gam := []) (txt := []) (hints := [(27, [([0, 1, 0, 1, 1], ⟨[0, 1], [.reg 5 .t_i64 [none]], [(.ex 0, []), (.ret, [.reg 4 .t_bool [none]])]⟩)])]) mixed .nil .nil Try.func27 (by kernel_rfl) (by kernel_rfl)

def r16_Same (N : Nat) (x0 x1 : Chain) : Option Bool :=
 
  (bif x0.Key != x1.Key then some true else some ((↑x0.Contacts.length : Int) != (↑x1.Contacts.length : Int))).bind
    fun (r2 : Bool) =>
    bif r2 then some false
    else
      (whileF N
            (fun (p3 : Int) =>
              bif decide (p3 < (↑x0.Contacts.length : Int)) then
                bif decide ((0 : Int) ≤ p3) && decide (p3 < (↑x0.Contacts.length : Int)) then
                  bif decide ((0 : Int) ≤ p3) && decide (p3 < (↑x1.Contacts.length : Int)) then
                    bif
                        !((x0.Contacts.getD p3.toNat z_Contact).ID == (x1.Contacts.getD p3.toNat z_Contact).ID &&
                            ((x0.Contacts.getD p3.toNat z_Contact).Critical ==
                                (x1.Contacts.getD p3.toNat z_Contact).Critical &&
                              ((x0.Contacts.getD p3.toNat z_Contact).Closed ==
                                  (x1.Contacts.getD p3.toNat z_Contact).Closed &&
                                ((x0.Contacts.getD p3.toNat z_Contact).Latched ==
                                    (x1.Contacts.getD p3.toNat z_Contact).Latched &&
                                  ((x0.Contacts.getD p3.toNat z_Contact).Until ==
                                      (x1.Contacts.getD p3.toNat z_Contact).Until &&
                                    true))))) then
                      some (Sum.inr (Sum.inr false))
                    else some (Sum.inl (IntKind.i64.wrap (p3 + (1 : Int))))
                  else none
                else none
              else some (Sum.inr (Sum.inl ())))
            (0 : Int)).bind
        fun (r4 : Unit ⊕ Bool) => Sum.elim (fun (p5 : Unit) => some true) (fun (p6 : Bool) => some p6) r4
theorem d_r16_Same (N : Nat) : DenF Try.prog 20 ⟨[.t_Chain, .t_Chain], [.t_bool], [[none]], r16_Same N⟩ :=
  den_of (N := N) (gam := []) (txt := []) (hints := [(20, [([0, 0, 1], ⟨[2, 3], [], [(.nrm, [.reg 19 .t_bool [none]])]⟩), ([0, 1, 0, 1, 1], ⟨[2, 3], [.reg 5 .t_i64 [none]], [(.ex 0, []), (.ret, [.reg 4 .t_bool [none]])]⟩)])]) mixed .nil .nil Try.func20 (by kernel_rfl) (by kernel_rfl)

def chain_Expire (N : Nat) (x0 : Chain) (x1 : Int) : Option Chain :=
 
  (chain_clone N x0).bind fun (r2 : Chain) =>
    (whileF N
          (fun (p3 : Int × List Contact) =>
            bif decide (p3.fst < (↑r2.Contacts.length : Int)) then
              bif decide ((0 : Int) ≤ p3.fst) && decide (p3.fst < (↑(List.length p3.snd) : Int)) then
                (bif decide ((List.getD p3.snd (Int.toNat p3.fst) z_Contact).Until ≤ x1) then
                      bif decide ((0 : Int) ≤ p3.fst) && decide (p3.fst < (↑(List.length p3.snd) : Int)) then
                        (some
                              (List.set p3.snd (Int.toNat p3.fst)
                                (Contact.mk (List.getD p3.snd (Int.toNat p3.fst) z_Contact).ID
                                  (List.getD p3.snd (Int.toNat p3.fst) z_Contact).Critical
                                  (List.getD p3.snd (Int.toNat p3.fst) z_Contact).Closed
                                  (List.getD p3.snd (Int.toNat p3.fst) z_Contact).Latched (0 : Int)))).bind
                          fun (r4 : List Contact) => some r4
                      else none
                    else some p3.snd).bind
                  fun (r5 : List Contact) => some (Sum.inl (IntKind.i64.wrap (p3.fst + (1 : Int)), r5))
              else none
            else some (Sum.inr p3.snd))
          ((0 : Int), r2.Contacts)).bind
      fun (r6 : List Contact) => some (Chain.mk r6 r2.Key)
theorem d_chain_Expire (N : Nat) : DenF Try.prog 25 ⟨[.t_Chain, .t_i64], [.t_Chain], [[some 48, none]], chain_Expire N⟩ :=
  den_of (N := N) (gam := [(39, ⟨[.t_Chain], [.t_Chain], [[some 48, none]], chain_clone N⟩)]) (txt := []) (hints := [(25, [([0, 1, 0, 1, 1], ⟨[1, 2, 4, 10], [.reg 11 .t_i64 [none], .rowc 2 0 .l_Contact], [(.ex 0, [.rowc 2 0 .l_Contact])]⟩), ([1, 1, 0, 0, 1, 1, 0, 0, 1, 0, 1, 1], ⟨[1, 2, 4, 10, 11], [], [(.nrm, [.rowc 2 0 .l_Contact])]⟩)])]) mixed (.cons (d_chain_clone N) .nil) .nil Try.func25 (by kernel_rfl) (by kernel_rfl)

def l16_alive (N : Nat) : Option Bool :=
 
  (l16_three N).bind fun (r0 : Chain) =>
    (chain_Break N r0 (1 : Int)).bind fun (r1 : Chain × Int) =>
      (chain_Make N r1.fst (1 : Int)).bind fun (r2 : Chain × Int) =>
        (chain_Clear N r1.fst (1 : Int) (7 : Int)).bind fun (r3 : Chain × Int) =>
          (chain_Clear N r2.fst (1 : Int) (7 : Int)).bind fun (r4 : Chain × Int) =>
            (chain_Take N r0 (6 : Int)).bind fun (r5 : Chain × Int) =>
              (chain_Take N r0 (5 : Int)).bind fun (r6 : Chain × Int) =>
                (chain_Bypass N r0 (1 : Int) (5 : Int) (60 : Int)).bind fun (r7 : Chain × Int) =>
                  (chain_Bypass N r0 (3 : Int) (5 : Int) (60 : Int)).bind fun (r8 : Chain × Int) =>
                    (bif r1.snd != (0 : Int) then some true
                        else
                          bif r2.snd != (0 : Int) then some true
                          else
                            bif r3.snd != (10 : Int) then some true
                            else
                              bif r4.snd != (0 : Int) then some true
                              else
                                bif r5.snd != (15 : Int) then some true
                                else
                                  bif r6.snd != (0 : Int) then some true
                                  else
                                    bif r7.snd != (15 : Int) then some true
                                    else
                                      bif r8.snd != (0 : Int) then some true
                                      else (chain_Right N r0).bind fun (r9 : Int) => some (r9 != (0 : Int))).bind
                      fun (r10 : Bool) =>
                      bif r10 then some false
                      else
                        ((chain_Faults N r0 (49 : Int)).bind fun (r11 : List Int) =>
                              (some [(2 : Int)]).bind fun (r12 : List Int) =>
                                (r16_SameInts N r11 r12).bind fun (r13 : Bool) =>
                                  bif !r13 then some true
                                  else
                                    (chain_Faults N r0 (50 : Int)).bind fun (r14 : List Int) =>
                                      (some [(2 : Int), (3 : Int)]).bind fun (r15 : List Int) =>
                                        (r16_SameInts N r14 r15).bind fun (r16 : Bool) =>
                                          bif !r16 then some true
                                          else
                                            (chain_Faults N r2.fst (0 : Int)).bind fun (r17 : List Int) =>
                                              (some [(1 : Int), (2 : Int)]).bind fun (r18 : List Int) =>
                                                (r16_SameInts N r17 r18).bind fun (r19 : Bool) =>
                                                  bif !r19 then some true
                                                  else (r16_Same N r4.fst r0).bind fun (r20 : Bool) => some !r20).bind
                          fun (r21 : Bool) =>
                          bif r21 then some false
                          else
                            (bif r6.fst.Key == (0 : Int) then
                                  (chain_Faults N r6.fst (0 : Int)).bind fun (r22 : List Int) =>
                                    (some [(2 : Int), (3 : Int)]).bind fun (r23 : List Int) =>
                                      (r16_SameInts N r22 r23).bind fun (r24 : Bool) =>
                                        bif r24 then
                                          (chain_Faults N r8.fst (59 : Int)).bind fun (r25 : List Int) =>
                                            (some [(2 : Int)]).bind fun (r26 : List Int) =>
                                              (r16_SameInts N r25 r26).bind fun (r27 : Bool) =>
                                                bif r27 then
                                                  (chain_Expire N r8.fst (60 : Int)).bind fun (r28 : Chain) =>
                                                    (chain_Faults N r28 (59 : Int)).bind fun (r29 : List Int) =>
                                                      (some [(2 : Int), (3 : Int)]).bind fun (r30 : List Int) =>
                                                        (r16_SameInts N r29 r30).bind fun (r31 : Bool) => some r31
                                                else some false
                                        else some false
                                else some false).bind
                              fun (r32 : Bool) => some r32
theorem d_l16_alive (N : Nat) : DenF Try.prog 11 ⟨[], [.t_bool], [[none]], l16_alive N⟩ :=
  den_of (N := N) (gam := [(33, ⟨[], [.t_Chain], [[some 48, none]], l16_three N⟩), (14, ⟨[.t_Chain, .t_i64], [.t_Chain, .t_i64], [[some 48, none], [none]], chain_Break N⟩), (16, ⟨[.t_Chain, .t_i64], [.t_Chain, .t_i64], [[some 48, none], [none]], chain_Make N⟩), (18, ⟨[.t_Chain, .t_i64, .t_i64], [.t_Chain, .t_i64], [[some 48, none], [none]], chain_Clear N⟩), (21, ⟨[.t_Chain, .t_i64], [.t_Chain, .t_i64], [[some 48, none], [none]], chain_Take N⟩), (23, ⟨[.t_Chain, .t_i64, .t_i64, .t_i64], [.t_Chain, .t_i64], [[some 48, none], [none]], chain_Bypass N⟩), (12, ⟨[.t_Chain], [.t_i64], [[none]], chain_Right N⟩), (28, ⟨[.t_Chain, .t_i64], [.l_i64], [[some 3]], chain_Faults N⟩), (27, ⟨[.l_i64, .l_i64], [.t_bool], [[none]], r16_SameInts N⟩), (20, ⟨[.t_Chain, .t_Chain], [.t_bool], [[none]], r16_Same N⟩), (25, ⟨[.t_Chain, .t_i64], [.t_Chain], [[some 48, none]], chain_Expire N⟩)]) (txt := []) (hints := [(11, [([0, 0, 1, 1, 1, 1, 1, 1, 1, 1, 1, 1], ⟨[1, 4, 8, 12, 16], [], [(.nrm, [.reg 93 .t_bool [none]])]⟩), ([0, 0, 1, 1, 1, 1, 1, 1, 1, 1, 1, 1, 1], ⟨[12, 16], [], [(.nrm, [.reg 118 .t_bool [none]])]⟩), ([0, 1, 1, 1, 1, 1, 1, 1, 1, 1, 1, 1, 1], ⟨[], [], [(.nrm, [.reg 0 .t_bool [none]])]⟩)])]) mixed (.cons (d_l16_three N) (.cons (d_chain_Break N) (.cons (d_chain_Make N) (.cons (d_chain_Clear N) (.cons (d_chain_Take N) (.cons (d_chain_Bypass N) (.cons (d_chain_Right N) (.cons (d_chain_Faults N) (.cons (d_r16_SameInts N) (.cons (d_r16_Same N) (.cons (d_chain_Expire N) .nil))))))))))) .nil Try.func11 (by kernel_rfl) (by kernel_rfl)

def r16_in (N : Nat) (x0 x1 x2 : Int) : Option Bool :=
 
  (bif decide (x0 ≥ x1) then some (decide (x0 ≤ x2)) else some false).bind fun (r3 : Bool) => some r3
theorem d_r16_in (N : Nat) : DenF Try.prog 35 ⟨[.t_i64, .t_i64, .t_i64], [.t_bool], [[none]], r16_in N⟩ :=
  den_of (N := N) (gam := []) (txt := []) (hints := [(35, [([0, 1], ⟨[], [], [(.nrm, [.reg 6 .t_bool [none]])]⟩)])]) mixed .nil .nil Try.func35 (by kernel_rfl) (by kernel_rfl)

def r16_index (N : Nat) (x0 : List Contact) (x1 : Int) : Option Int :=
 
  (whileF N
        (fun (p2 : Int) =>
          bif decide (p2 < (↑x0.length : Int)) then
            bif decide ((0 : Int) ≤ p2) && decide (p2 < (↑x0.length : Int)) then
              bif (x0.getD p2.toNat z_Contact).ID == x1 then some (Sum.inr (Sum.inr p2))
              else some (Sum.inl (IntKind.i64.wrap (p2 + (1 : Int))))
            else none
          else some (Sum.inr (Sum.inl ())))
        (0 : Int)).bind
    fun (r3 : Unit ⊕ Int) => Sum.elim (fun (p4 : Unit) => some (-1 : Int)) (fun (p5 : Int) => some p5) r3
theorem d_r16_index (N : Nat) : DenF Try.prog 36 ⟨[.l_Contact, .t_i64], [.t_i64], [[none]], r16_index N⟩ :=
  den_of (N := N) (gam := []) (txt := []) (hints := [(36, [([0, 1, 0, 1], ⟨[0, 1], [.reg 5 .t_i64 [none]], [(.ex 0, []), (.ret, [.reg 4 .t_i64 [none]])]⟩)])]) mixed .nil .nil Try.func36 (by kernel_rfl) (by kernel_rfl)

def r16_bypassed (N : Nat) (x0 : List Contact) : Option Int :=
 
  (whileF N
        (fun (p1 : Int) =>
          bif decide (p1 < (↑x0.length : Int)) then
            bif decide ((0 : Int) ≤ p1) && decide (p1 < (↑x0.length : Int)) then
              bif (x0.getD p1.toNat z_Contact).Until != (0 : Int) then some (Sum.inr (Sum.inr p1))
              else some (Sum.inl (IntKind.i64.wrap (p1 + (1 : Int))))
            else none
          else some (Sum.inr (Sum.inl ())))
        (0 : Int)).bind
    fun (r2 : Unit ⊕ Int) => Sum.elim (fun (p3 : Unit) => some (-1 : Int)) (fun (p4 : Int) => some p4) r2
theorem d_r16_bypassed (N : Nat) : DenF Try.prog 37 ⟨[.l_Contact], [.t_i64], [[none]], r16_bypassed N⟩ :=
  den_of (N := N) (gam := []) (txt := []) (hints := [(37, [([0, 1, 0, 1], ⟨[0], [.reg 3 .t_i64 [none]], [(.ex 0, []), (.ret, [.reg 2 .t_i64 [none]])]⟩)])]) mixed .nil .nil Try.func37 (by kernel_rfl) (by kernel_rfl)

def r16_Right (N : Nat) (x0 : Chain) : Option Int :=
 
  bif decide ((↑x0.Contacts.length : Int) > (32 : Int)) then some (4 : Int)
  else
    (r16_in N x0.Key (0 : Int) (9999 : Int)).bind fun (r1 : Bool) =>
      bif !r1 then some (2 : Int)
      else
        (whileF N
              (fun (p2 : Int) =>
                bif decide (p2 < (↑x0.Contacts.length : Int)) then
                  bif decide ((0 : Int) ≤ p2) && decide (p2 < (↑x0.Contacts.length : Int)) then
                    ((r16_in N (x0.Contacts.getD p2.toNat z_Contact).ID (1 : Int) (9999 : Int)).bind fun (r3 : Bool) =>
                          bif !r3 then some true
                          else
                            (r16_in N (x0.Contacts.getD p2.toNat z_Contact).Until (0 : Int) (20000000 : Int)).bind
                              fun (r4 : Bool) => some !r4).bind
                      fun (r5 : Bool) =>
                      bif r5 then some (Sum.inr (Sum.inr (2 : Int)))
                      else
                        bif decide ((0 : Int) ≤ p2) && decide (p2 ≤ (↑x0.Contacts.length : Int)) then
                          (r16_index N (List.take p2.toNat x0.Contacts) (x0.Contacts.getD p2.toNat z_Contact).ID).bind
                            fun (r6 : Int) =>
                            bif decide (r6 ≥ (0 : Int)) then some (Sum.inr (Sum.inr (7 : Int)))
                            else
                              (bif !(x0.Contacts.getD p2.toNat z_Contact).Closed then
                                    some !(x0.Contacts.getD p2.toNat z_Contact).Latched
                                  else some false).bind
                                fun (r7 : Bool) =>
                                bif r7 then some (Sum.inr (Sum.inr (10 : Int)))
                                else
                                  (bif (x0.Contacts.getD p2.toNat z_Contact).Critical then
                                        some ((x0.Contacts.getD p2.toNat z_Contact).Until != (0 : Int))
                                      else some false).bind
                                    fun (r8 : Bool) =>
                                    bif r8 then some (Sum.inr (Sum.inr (13 : Int)))
                                    else
                                      (bif (x0.Contacts.getD p2.toNat z_Contact).Until != (0 : Int) then
                                            bif x0.Key == (0 : Int) then some true
                                            else
                                              bif
                                                  decide ((0 : Int) ≤ p2) &&
                                                    decide (p2 ≤ (↑x0.Contacts.length : Int)) then
                                                (r16_bypassed N (List.take p2.toNat x0.Contacts)).bind fun (r9 : Int) =>
                                                  some (decide (r9 ≥ (0 : Int)))
                                              else none
                                          else some false).bind
                                        fun (r10 : Bool) =>
                                        bif r10 then some (Sum.inr (Sum.inr (15 : Int)))
                                        else some (Sum.inl (IntKind.i64.wrap (p2 + (1 : Int))))
                        else none
                  else none
                else some (Sum.inr (Sum.inl ())))
              (0 : Int)).bind
          fun (r11 : Unit ⊕ Int) => Sum.elim (fun (p12 : Unit) => some (0 : Int)) (fun (p13 : Int) => some p13) r11
theorem d_r16_Right (N : Nat) : DenF Try.prog 13 ⟨[.t_Chain], [.t_i64], [[none]], r16_Right N⟩ :=
  den_of (N := N) (gam := [(35, ⟨[.t_i64, .t_i64, .t_i64], [.t_bool], [[none]], r16_in N⟩), (36, ⟨[.l_Contact, .t_i64], [.t_i64], [[none]], r16_index N⟩), (37, ⟨[.l_Contact], [.t_i64], [[none]], r16_bypassed N⟩)]) (txt := []) (hints := [(13, [([0, 1, 0, 1, 1, 1], ⟨[1], [.reg 3 .t_i64 [none]], [(.ex 0, []), (.ret, [.reg 2 .t_i64 [none]])]⟩), ([0, 0, 1, 0, 0, 1, 0, 0, 1, 0, 1, 1, 1], ⟨[1, 3, 4], [], [(.nrm, [.reg 25 .t_bool [none]])]⟩), ([0, 1, 1, 1, 1, 0, 1, 0, 0, 1, 0, 0, 1, 0, 1, 1, 1], ⟨[1, 3, 4], [], [(.nrm, [.reg 45 .t_bool [none]])]⟩), ([0, 1, 1, 1, 1, 1, 1, 0, 1, 0, 0, 1, 0, 0, 1, 0, 1, 1, 1], ⟨[1, 3, 4], [], [(.nrm, [.reg 54 .t_bool [none]])]⟩), ([0, 1, 1, 1, 1, 1, 1, 1, 1, 0, 1, 0, 0, 1, 0, 0, 1, 0, 1, 1, 1], ⟨[1, 3], [], [(.nrm, [.reg 62 .t_bool [none]])]⟩)])]) mixed (.cons (d_r16_in N) (.cons (d_r16_index N) (.cons (d_r16_bypassed N) .nil))) .nil Try.func13 (by kernel_rfl) (by kernel_rfl)

def l16_ChainChecks (N : Nat) (x0 : Chain) : Option Bool :=
 
  (l16_alive N).bind fun (r1 : Bool) =>
    bif !r1 then some false
    else
      (bif decide ((↑x0.Contacts.length : Int) > (50 : Int)) then some true
          else (chain_Right N x0).bind fun (r2 : Int) => (r16_Right N x0).bind fun (r3 : Int) => some (r2 == r3)).bind
        fun (r4 : Bool) => some r4
theorem d_l16_ChainChecks (N : Nat) : DenF Try.prog 3 ⟨[.t_Chain], [.t_bool], [[none]], l16_ChainChecks N⟩ :=
  den_of (N := N) (gam := [(11, ⟨[], [.t_bool], [[none]], l16_alive N⟩), (12, ⟨[.t_Chain], [.t_i64], [[none]], chain_Right N⟩), (13, ⟨[.t_Chain], [.t_i64], [[none]], r16_Right N⟩)]) (txt := []) (hints := [(3, [([0, 1, 1], ⟨[], [], [(.nrm, [.reg 2 .t_bool [none]])]⟩)])]) mixed (.cons (d_l16_alive N) (.cons (d_chain_Right N) (.cons (d_r16_Right N) .nil))) .nil Try.func3 (by kernel_rfl) (by kernel_rfl)

def r16_with (N : Nat) (x0 : Chain) (x1 : Int) (x2 : Contact) : Option Chain :=
 
  (whileF N
        (fun (p3 : Int × Chain) =>
          bif decide (p3.fst < (↑x0.Contacts.length : Int)) then
            (bif p3.fst == x1 then
                  (some [x2]).bind fun (r4 : List Contact) =>
                    bif decide ((p3.snd.Contacts.length + r4.length) * 24 ≤ 140737488355328) then
                      (some (p3.snd.Contacts ++ r4)).bind fun (r5 : List Contact) => some (Chain.mk r5 p3.snd.Key)
                    else none
                else
                  bif decide ((0 : Int) ≤ p3.fst) && decide (p3.fst < (↑x0.Contacts.length : Int)) then
                    (some [x0.Contacts.getD (Int.toNat p3.fst) z_Contact]).bind fun (r6 : List Contact) =>
                      bif decide ((p3.snd.Contacts.length + r6.length) * 24 ≤ 140737488355328) then
                        (some (p3.snd.Contacts ++ r6)).bind fun (r7 : List Contact) => some (Chain.mk r7 p3.snd.Key)
                      else none
                  else none).bind
              fun (r8 : Chain) => some (Sum.inl (IntKind.i64.wrap (p3.fst + (1 : Int)), r8))
          else some (Sum.inr p3.snd))
        ((0 : Int), Chain.mk [] x0.Key)).bind
    fun (r9 : Chain) => some r9
theorem d_r16_with (N : Nat) : DenF Try.prog 40 ⟨[.t_Chain, .t_i64, .t_Contact], [.t_Chain], [[some 48, none]], r16_with N⟩ :=
  den_of (N := N) (gam := []) (txt := []) (hints := [(40, [([0, 1, 0, 1, 1], ⟨[1, 3, 5, 6, 7], [.reg 8 .t_i64 [none], .var 7 .t_Chain [some 48, none]], [(.ex 0, [.var 7 .t_Chain [some 48, none]])]⟩), ([1, 0, 0, 1, 0, 0, 1, 0, 1, 1], ⟨[1, 3, 5, 6, 7, 8], [], [(.nrm, [.var 7 .t_Chain [some 48, none]])]⟩)])]) mixed .nil .nil Try.func40 (by kernel_rfl) (by kernel_rfl)

def r16_Break (N : Nat) (x0 : Chain) (x1 : Int) : Option (Chain × Int) :=
 
  (r16_index N x0.Contacts x1).bind fun (r2 : Int) =>
    bif decide (r2 < (0 : Int)) then some (z_Chain, (8 : Int))
    else
      bif decide ((0 : Int) ≤ r2) && decide (r2 < (↑x0.Contacts.length : Int)) then
        (r16_with N x0 r2
              (Contact.mk (x0.Contacts.getD r2.toNat z_Contact).ID (x0.Contacts.getD r2.toNat z_Contact).Critical false
                true (x0.Contacts.getD r2.toNat z_Contact).Until)).bind
          fun (r3 : Chain) => some (r3, (0 : Int))
      else none
theorem d_r16_Break (N : Nat) : DenF Try.prog 15 ⟨[.t_Chain, .t_i64], [.t_Chain, .t_i64], [[some 48, none], [none]], r16_Break N⟩ :=
  den_of (N := N) (gam := [(36, ⟨[.l_Contact, .t_i64], [.t_i64], [[none]], r16_index N⟩), (40, ⟨[.t_Chain, .t_i64, .t_Contact], [.t_Chain], [[some 48, none]], r16_with N⟩)]) (txt := []) (hints := []) mixed (.cons (d_r16_index N) (.cons (d_r16_with N) .nil)) .nil Try.func15 (by kernel_rfl) (by kernel_rfl)

def r16_Make (N : Nat) (x0 : Chain) (x1 : Int) : Option (Chain × Int) :=
 
  (r16_index N x0.Contacts x1).bind fun (r2 : Int) =>
    bif decide (r2 < (0 : Int)) then some (z_Chain, (8 : Int))
    else
      bif decide ((0 : Int) ≤ r2) && decide (r2 < (↑x0.Contacts.length : Int)) then
        (r16_with N x0 r2
              (Contact.mk (x0.Contacts.getD r2.toNat z_Contact).ID (x0.Contacts.getD r2.toNat z_Contact).Critical true
                (x0.Contacts.getD r2.toNat z_Contact).Latched (x0.Contacts.getD r2.toNat z_Contact).Until)).bind
          fun (r3 : Chain) => some (r3, (0 : Int))
      else none
theorem d_r16_Make (N : Nat) : DenF Try.prog 17 ⟨[.t_Chain, .t_i64], [.t_Chain, .t_i64], [[some 48, none], [none]], r16_Make N⟩ :=
  den_of (N := N) (gam := [(36, ⟨[.l_Contact, .t_i64], [.t_i64], [[none]], r16_index N⟩), (40, ⟨[.t_Chain, .t_i64, .t_Contact], [.t_Chain], [[some 48, none]], r16_with N⟩)]) (txt := []) (hints := []) mixed (.cons (d_r16_index N) (.cons (d_r16_with N) .nil)) .nil Try.func17 (by kernel_rfl) (by kernel_rfl)

def r16_Clear (N : Nat) (x0 : Chain) (x1 x2 : Int) : Option (Chain × Int) :=
 
  (r16_index N x0.Contacts x1).bind fun (r3 : Int) =>
    bif decide (r3 < (0 : Int)) then some (z_Chain, (8 : Int))
    else
      bif decide ((0 : Int) ≤ r3) && decide (r3 < (↑x0.Contacts.length : Int)) then
        (r16_in N x2 (1 : Int) (9999 : Int)).bind fun (r4 : Bool) =>
          bif !r4 then some (z_Chain, (17 : Int))
          else
            bif !(x0.Contacts.getD r3.toNat z_Contact).Closed then some (z_Chain, (10 : Int))
            else
              (r16_with N x0 r3
                    (Contact.mk (x0.Contacts.getD r3.toNat z_Contact).ID (x0.Contacts.getD r3.toNat z_Contact).Critical
                      (x0.Contacts.getD r3.toNat z_Contact).Closed false
                      (x0.Contacts.getD r3.toNat z_Contact).Until)).bind
                fun (r5 : Chain) => some (r5, (0 : Int))
      else none
theorem d_r16_Clear (N : Nat) : DenF Try.prog 19 ⟨[.t_Chain, .t_i64, .t_i64], [.t_Chain, .t_i64], [[some 48, none], [none]], r16_Clear N⟩ :=
  den_of (N := N) (gam := [(36, ⟨[.l_Contact, .t_i64], [.t_i64], [[none]], r16_index N⟩), (35, ⟨[.t_i64, .t_i64, .t_i64], [.t_bool], [[none]], r16_in N⟩), (40, ⟨[.t_Chain, .t_i64, .t_Contact], [.t_Chain], [[some 48, none]], r16_with N⟩)]) (txt := []) (hints := []) mixed (.cons (d_r16_index N) (.cons (d_r16_in N) (.cons (d_r16_with N) .nil))) .nil Try.func19 (by kernel_rfl) (by kernel_rfl)

def l16_ChainContacts (N : Nat) (x0 : Chain) (x1 x2 : Int) : Option Bool :=
 
  (l16_alive N).bind fun (r3 : Bool) =>
    bif !r3 then some false
    else
      (r16_Right N x0).bind fun (r4 : Int) =>
        bif r4 != (0 : Int) then some true
        else
          (chain_Break N x0 x1).bind fun (r5 : Chain × Int) =>
            (r16_Break N x0 x1).bind fun (r6 : Chain × Int) =>
              (chain_Make N x0 x1).bind fun (r7 : Chain × Int) =>
                (r16_Make N x0 x1).bind fun (r8 : Chain × Int) =>
                  (chain_Clear N x0 x1 x2).bind fun (r9 : Chain × Int) =>
                    (r16_Clear N x0 x1 x2).bind fun (r10 : Chain × Int) =>
                      ((r16_Same N r5.fst r6.fst).bind fun (r11 : Bool) =>
                            bif r11 then
                              bif r5.snd == r6.snd then
                                (r16_Same N r7.fst r8.fst).bind fun (r12 : Bool) =>
                                  bif r12 then
                                    bif r7.snd == r8.snd then
                                      (r16_Same N r9.fst r10.fst).bind fun (r13 : Bool) =>
                                        bif r13 then some (r9.snd == r10.snd) else some false
                                    else some false
                                  else some false
                              else some false
                            else some false).bind
                        fun (r14 : Bool) => some r14
theorem d_l16_ChainContacts (N : Nat) : DenF Try.prog 4 ⟨[.t_Chain, .t_i64, .t_i64], [.t_bool], [[none]], l16_ChainContacts N⟩ :=
  den_of (N := N) (gam := [(11, ⟨[], [.t_bool], [[none]], l16_alive N⟩), (13, ⟨[.t_Chain], [.t_i64], [[none]], r16_Right N⟩), (14, ⟨[.t_Chain, .t_i64], [.t_Chain, .t_i64], [[some 48, none], [none]], chain_Break N⟩), (15, ⟨[.t_Chain, .t_i64], [.t_Chain, .t_i64], [[some 48, none], [none]], r16_Break N⟩), (16, ⟨[.t_Chain, .t_i64], [.t_Chain, .t_i64], [[some 48, none], [none]], chain_Make N⟩), (17, ⟨[.t_Chain, .t_i64], [.t_Chain, .t_i64], [[some 48, none], [none]], r16_Make N⟩), (18, ⟨[.t_Chain, .t_i64, .t_i64], [.t_Chain, .t_i64], [[some 48, none], [none]], chain_Clear N⟩), (19, ⟨[.t_Chain, .t_i64, .t_i64], [.t_Chain, .t_i64], [[some 48, none], [none]], r16_Clear N⟩), (20, ⟨[.t_Chain, .t_Chain], [.t_bool], [[none]], r16_Same N⟩)]) (txt := []) (hints := [(4, [([0, 1, 1, 1, 1, 1, 1, 1, 1, 1], ⟨[], [], [(.nrm, [.reg 6 .t_bool [none]])]⟩)])]) mixed (.cons (d_l16_alive N) (.cons (d_r16_Right N) (.cons (d_chain_Break N) (.cons (d_r16_Break N) (.cons (d_chain_Make N) (.cons (d_r16_Make N) (.cons (d_chain_Clear N) (.cons (d_r16_Clear N) (.cons (d_r16_Same N) .nil))))))))) .nil Try.func4 (by kernel_rfl) (by kernel_rfl)
end Go.Proofs.Ytpjafflngappaaa
