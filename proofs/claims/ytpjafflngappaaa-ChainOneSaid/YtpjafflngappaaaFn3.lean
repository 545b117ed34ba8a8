/- Written by a program (gen.py, asm.py): what each function computes, as a plain function, and that its text computes it. No condition. -/
import Derived.Test.YtpjafflngappaaaFn2
import Derived.Test.YtpjafflngappaaaCmo
namespace Go.Proofs.Ytpjafflngappaaa
open Go.Cm Go.Proofs
set_option linter.unusedVariables false
set_option maxRecDepth 100000

def r16_Expire (N : Nat) (x0 : Chain) (x1 : Int) : Option Chain :=
 
  (whileF N
        (fun (p2 : Int × Chain) =>
          bif decide (p2.fst < (↑x0.Contacts.length : Int)) then
            bif decide ((0 : Int) ≤ p2.fst) && decide (p2.fst < (↑x0.Contacts.length : Int)) then
              (bif decide ((x0.Contacts.getD (Int.toNat p2.fst) z_Contact).Until ≤ x1) then
                    some
                      (Contact.mk (x0.Contacts.getD (Int.toNat p2.fst) z_Contact).ID
                        (x0.Contacts.getD (Int.toNat p2.fst) z_Contact).Critical
                        (x0.Contacts.getD (Int.toNat p2.fst) z_Contact).Closed
                        (x0.Contacts.getD (Int.toNat p2.fst) z_Contact).Latched (0 : Int))
                  else some (x0.Contacts.getD (Int.toNat p2.fst) z_Contact)).bind
                fun (r3 : Contact) =>
                (some [r3]).bind fun (r4 : List Contact) =>
                  bif decide ((p2.snd.Contacts.length + r4.length) * 24 ≤ 140737488355328) then
                    (some (p2.snd.Contacts ++ r4)).bind fun (r5 : List Contact) =>
                      some (Sum.inl (IntKind.i64.wrap (p2.fst + (1 : Int)), Chain.mk r5 p2.snd.Key))
                  else none
            else none
          else some (Sum.inr p2.snd))
        ((0 : Int), Chain.mk [] x0.Key)).bind
    fun (r6 : Chain) => some r6
theorem d_r16_Expire (N : Nat) : DenF Try.prog 26 ⟨[.t_Chain, .t_i64], [.t_Chain], [[some 48, none]], r16_Expire N⟩ :=
  den_of (N := N) (gam := []) (txt := []) (hints := [(26, [([0, 1, 0, 1, 1], ⟨[1, 2, 4, 5], [.reg 6 .t_i64 [none], .var 5 .t_Chain [some 48, none]], [(.ex 0, [.var 5 .t_Chain [some 48, none]])]⟩), ([1, 0, 1, 0, 0, 1, 0, 0, 1, 0, 1, 1], ⟨[1, 2, 4, 5, 6, 7], [], [(.nrm, [.var 7 .t_Contact [none, none, none, none, none]])]⟩)])]) mixed .nil .nil Try.func26 (by kernel_rfl) (by kernel_rfl)

def r16_Take (N : Nat) (x0 : Chain) (x1 : Int) : Option (Chain × Int) :=
 
  (r16_in N x1 (1 : Int) (9999 : Int)).bind fun (r2 : Bool) =>
    bif !r2 then some (z_Chain, (17 : Int))
    else
      (bif x0.Key != (0 : Int) then some (x0.Key != x1) else some false).bind fun (r3 : Bool) =>
        bif r3 then some (z_Chain, (15 : Int))
        else
          bif x0.Key == (0 : Int) then
            (r16_with N x0 (-1 : Int) z_Contact).bind fun (r4 : Chain) => some (Chain.mk r4.Contacts x1, (0 : Int))
          else
            (r16_Expire N x0 (20000000 : Int)).bind fun (r5 : Chain) => some (Chain.mk r5.Contacts (0 : Int), (0 : Int))
theorem d_r16_Take (N : Nat) : DenF Try.prog 22 ⟨[.t_Chain, .t_i64], [.t_Chain, .t_i64], [[some 48, none], [none]], r16_Take N⟩ :=
  den_of (N := N) (gam := [(35, ⟨[.t_i64, .t_i64, .t_i64], [.t_bool], [[none]], r16_in N⟩), (40, ⟨[.t_Chain, .t_i64, .t_Contact], [.t_Chain], [[some 48, none]], r16_with N⟩), (26, ⟨[.t_Chain, .t_i64], [.t_Chain], [[some 48, none]], r16_Expire N⟩)]) (txt := []) (hints := [(22, [([0, 0, 1, 1], ⟨[1, 2, 4], [], [(.nrm, [.reg 20 .t_bool [none]])]⟩)])]) mixed (.cons (d_r16_in N) (.cons (d_r16_with N) (.cons (d_r16_Expire N) .nil))) .nil Try.func22 (by kernel_rfl) (by kernel_rfl)

def l16_ChainTakes (N : Nat) (x0 : Chain) (x1 : Int) : Option Bool :=
 
  (l16_alive N).bind fun (r2 : Bool) =>
    bif !r2 then some false
    else
      (r16_Right N x0).bind fun (r3 : Int) =>
        bif r3 != (0 : Int) then some true
        else
          (chain_Take N x0 x1).bind fun (r4 : Chain × Int) =>
            (r16_Take N x0 x1).bind fun (r5 : Chain × Int) =>
              ((r16_Same N r4.fst r5.fst).bind fun (r6 : Bool) =>
                    bif r6 then some (r4.snd == r5.snd) else some false).bind
                fun (r7 : Bool) => some r7
theorem d_l16_ChainTakes (N : Nat) : DenF Try.prog 5 ⟨[.t_Chain, .t_i64], [.t_bool], [[none]], l16_ChainTakes N⟩ :=
  den_of (N := N) (gam := [(11, ⟨[], [.t_bool], [[none]], l16_alive N⟩), (13, ⟨[.t_Chain], [.t_i64], [[none]], r16_Right N⟩), (21, ⟨[.t_Chain, .t_i64], [.t_Chain, .t_i64], [[some 48, none], [none]], chain_Take N⟩), (22, ⟨[.t_Chain, .t_i64], [.t_Chain, .t_i64], [[some 48, none], [none]], r16_Take N⟩), (20, ⟨[.t_Chain, .t_Chain], [.t_bool], [[none]], r16_Same N⟩)]) (txt := []) (hints := [(5, [([0, 1, 1, 1, 1, 1], ⟨[], [], [(.nrm, [.reg 4 .t_bool [none]])]⟩)])]) mixed (.cons (d_l16_alive N) (.cons (d_r16_Right N) (.cons (d_chain_Take N) (.cons (d_r16_Take N) (.cons (d_r16_Same N) .nil))))) .nil Try.func5 (by kernel_rfl) (by kernel_rfl)

def r16_Bypass (N : Nat) (x0 : Chain) (x1 x2 x3 : Int) : Option (Chain × Int) :=
 
  (r16_index N x0.Contacts x1).bind fun (r4 : Int) =>
    bif decide (r4 < (0 : Int)) then some (z_Chain, (8 : Int))
    else
      bif decide ((0 : Int) ≤ r4) && decide (r4 < (↑x0.Contacts.length : Int)) then
        (bif x2 == (0 : Int) then some true else some (x2 != x0.Key)).bind fun (r5 : Bool) =>
          bif r5 then some (z_Chain, (17 : Int))
          else
            bif (x0.Contacts.getD r4.toNat z_Contact).Critical then some (z_Chain, (13 : Int))
            else
              (r16_bypassed N x0.Contacts).bind fun (r6 : Int) =>
                (bif decide (r6 ≥ (0 : Int)) then some (r6 != r4) else some false).bind fun (r7 : Bool) =>
                  bif r7 then some (z_Chain, (15 : Int))
                  else
                    (r16_in N x3 (1 : Int) (20000000 : Int)).bind fun (r8 : Bool) =>
                      bif !r8 then some (z_Chain, (2 : Int))
                      else
                        (r16_with N x0 r4
                              (Contact.mk (x0.Contacts.getD r4.toNat z_Contact).ID
                                (x0.Contacts.getD r4.toNat z_Contact).Critical
                                (x0.Contacts.getD r4.toNat z_Contact).Closed
                                (x0.Contacts.getD r4.toNat z_Contact).Latched x3)).bind
                          fun (r9 : Chain) => some (r9, (0 : Int))
      else none
theorem d_r16_Bypass (N : Nat) : DenF Try.prog 24 ⟨[.t_Chain, .t_i64, .t_i64, .t_i64], [.t_Chain, .t_i64], [[some 48, none], [none]], r16_Bypass N⟩ :=
  den_of (N := N) (gam := [(36, ⟨[.l_Contact, .t_i64], [.t_i64], [[none]], r16_index N⟩), (37, ⟨[.l_Contact], [.t_i64], [[none]], r16_bypassed N⟩), (35, ⟨[.t_i64, .t_i64, .t_i64], [.t_bool], [[none]], r16_in N⟩), (40, ⟨[.t_Chain, .t_i64, .t_Contact], [.t_Chain], [[some 48, none]], r16_with N⟩)]) (txt := []) (hints := [(24, [([0, 0, 1, 1, 1, 1], ⟨[3, 4, 8, 10, 11], [], [(.nrm, [.reg 32 .t_bool [none]])]⟩), ([0, 0, 1, 1, 1, 1, 1, 1, 1], ⟨[3, 4, 8, 10, 11], [], [(.nrm, [.reg 46 .t_bool [none]])]⟩)])]) mixed (.cons (d_r16_index N) (.cons (d_r16_bypassed N) (.cons (d_r16_in N) (.cons (d_r16_with N) .nil)))) .nil Try.func24 (by kernel_rfl) (by kernel_rfl)

def l16_ChainBypasses (N : Nat) (x0 : Chain) (x1 x2 x3 : Int) : Option Bool :=
 
  (l16_alive N).bind fun (r4 : Bool) =>
    bif !r4 then some false
    else
      (r16_Right N x0).bind fun (r5 : Int) =>
        bif r5 != (0 : Int) then some true
        else
          (chain_Bypass N x0 x1 x2 x3).bind fun (r6 : Chain × Int) =>
            (r16_Bypass N x0 x1 x2 x3).bind fun (r7 : Chain × Int) =>
              ((r16_Same N r6.fst r7.fst).bind fun (r8 : Bool) =>
                    bif r8 then some (r6.snd == r7.snd) else some false).bind
                fun (r9 : Bool) => some r9
theorem d_l16_ChainBypasses (N : Nat) : DenF Try.prog 6 ⟨[.t_Chain, .t_i64, .t_i64, .t_i64], [.t_bool], [[none]], l16_ChainBypasses N⟩ :=
  den_of (N := N) (gam := [(11, ⟨[], [.t_bool], [[none]], l16_alive N⟩), (13, ⟨[.t_Chain], [.t_i64], [[none]], r16_Right N⟩), (23, ⟨[.t_Chain, .t_i64, .t_i64, .t_i64], [.t_Chain, .t_i64], [[some 48, none], [none]], chain_Bypass N⟩), (24, ⟨[.t_Chain, .t_i64, .t_i64, .t_i64], [.t_Chain, .t_i64], [[some 48, none], [none]], r16_Bypass N⟩), (20, ⟨[.t_Chain, .t_Chain], [.t_bool], [[none]], r16_Same N⟩)]) (txt := []) (hints := [(6, [([0, 1, 1, 1, 1, 1], ⟨[], [], [(.nrm, [.reg 8 .t_bool [none]])]⟩)])]) mixed (.cons (d_l16_alive N) (.cons (d_r16_Right N) (.cons (d_chain_Bypass N) (.cons (d_r16_Bypass N) (.cons (d_r16_Same N) .nil))))) .nil Try.func6 (by kernel_rfl) (by kernel_rfl)

def r16_Faults (N : Nat) (x0 : Chain) (x1 : Int) : Option ((List Int)) :=
 
  (whileF N
        (fun (p2 : List Int × Int) =>
          bif decide (p2.snd < (↑x0.Contacts.length : Int)) then
            bif decide ((0 : Int) ≤ p2.snd) && decide (p2.snd < (↑x0.Contacts.length : Int)) then
              (bif (x0.Contacts.getD (Int.toNat p2.snd) z_Contact).Latched then
                    some (decide (x1 ≥ (x0.Contacts.getD (Int.toNat p2.snd) z_Contact).Until))
                  else
                    bif !(x0.Contacts.getD (Int.toNat p2.snd) z_Contact).Closed then
                      some (decide (x1 ≥ (x0.Contacts.getD (Int.toNat p2.snd) z_Contact).Until))
                    else some false).bind
                fun (r3 : Bool) =>
                (bif r3 then
                      (some [(x0.Contacts.getD (Int.toNat p2.snd) z_Contact).ID]).bind fun (r4 : List Int) =>
                        bif decide ((List.length p2.fst + r4.length) * 8 ≤ 140737488355328) then
                          (some (p2.fst ++ r4)).bind fun (r5 : List Int) => some r5
                        else none
                    else some p2.fst).bind
                  fun (r6 : List Int) => some (Sum.inl (r6, IntKind.i64.wrap (p2.snd + (1 : Int))))
            else none
          else some (Sum.inr p2.fst))
        ([], (0 : Int))).bind
    fun (r7 : List Int) => some r7
theorem d_r16_Faults (N : Nat) : DenF Try.prog 29 ⟨[.t_Chain, .t_i64], [.l_i64], [[some 3]], r16_Faults N⟩ :=
  den_of (N := N) (gam := []) (txt := []) (hints := [(29, [([0, 1, 0, 1, 1], ⟨[1, 2], [.reg 5 .l_i64 [some 3], .reg 6 .t_i64 [none]], [(.ex 0, [.reg 5 .l_i64 [some 3]])]⟩), ([0, 1, 0, 0, 1, 0, 0, 1, 0, 1, 1], ⟨[1, 2, 5, 6, 7], [], [(.nrm, [.reg 32 .t_bool [none]])]⟩), ([1, 1, 0, 0, 1, 0, 0, 1, 0, 1, 1], ⟨[1, 2, 6], [], [(.nrm, [.reg 5 .l_i64 [some 3]])]⟩)])]) mixed .nil .nil Try.func29 (by kernel_rfl) (by kernel_rfl)

def l16_ChainFaults (N : Nat) (x0 : Chain) (x1 x2 : Int) : Option Bool :=
 
  (l16_alive N).bind fun (r3 : Bool) =>
    bif !r3 then some false
    else
      (r16_Right N x0).bind fun (r4 : Int) =>
        bif r4 != (0 : Int) then some true
        else
          ((chain_Expire N x0 x1).bind fun (r5 : Chain) =>
                (r16_Expire N x0 x1).bind fun (r6 : Chain) =>
                  (r16_Same N r5 r6).bind fun (r7 : Bool) =>
                    bif r7 then
                      (chain_Faults N x0 x2).bind fun (r8 : List Int) =>
                        (r16_Faults N x0 x2).bind fun (r9 : List Int) =>
                          (r16_SameInts N r8 r9).bind fun (r10 : Bool) =>
                            bif r10 then
                              (chain_Expire N x0 x1).bind fun (r11 : Chain) =>
                                (chain_Faults N r11 x1).bind fun (r12 : List Int) =>
                                  (chain_Faults N x0 x1).bind fun (r13 : List Int) =>
                                    (r16_SameInts N r12 r13).bind fun (r14 : Bool) => some r14
                            else some false
                    else some false).bind
            fun (r15 : Bool) => some r15
theorem d_l16_ChainFaults (N : Nat) : DenF Try.prog 7 ⟨[.t_Chain, .t_i64, .t_i64], [.t_bool], [[none]], l16_ChainFaults N⟩ :=
  den_of (N := N) (gam := [(11, ⟨[], [.t_bool], [[none]], l16_alive N⟩), (13, ⟨[.t_Chain], [.t_i64], [[none]], r16_Right N⟩), (25, ⟨[.t_Chain, .t_i64], [.t_Chain], [[some 48, none]], chain_Expire N⟩), (26, ⟨[.t_Chain, .t_i64], [.t_Chain], [[some 48, none]], r16_Expire N⟩), (20, ⟨[.t_Chain, .t_Chain], [.t_bool], [[none]], r16_Same N⟩), (28, ⟨[.t_Chain, .t_i64], [.l_i64], [[some 3]], chain_Faults N⟩), (29, ⟨[.t_Chain, .t_i64], [.l_i64], [[some 3]], r16_Faults N⟩), (27, ⟨[.l_i64, .l_i64], [.t_bool], [[none]], r16_SameInts N⟩)]) (txt := []) (hints := [(7, [([0, 1, 1, 1], ⟨[], [], [(.nrm, [.reg 6 .t_bool [none]])]⟩)])]) mixed (.cons (d_l16_alive N) (.cons (d_r16_Right N) (.cons (d_chain_Expire N) (.cons (d_r16_Expire N) (.cons (d_r16_Same N) (.cons (d_chain_Faults N) (.cons (d_r16_Faults N) (.cons (d_r16_SameInts N) .nil)))))))) .nil Try.func7 (by kernel_rfl) (by kernel_rfl)

def l16_do (N : Nat) (x0 : Chain) (x1 : Op) : Option (Chain × Bool) :=
 
  (bif x1.Kind == (0 : Int) then (chain_Break N x0 x1.ID).bind fun (r2 : Chain × Int) => some (r2.snd, r2.fst)
      else
        (bif x1.Kind == (1 : Int) then (chain_Make N x0 x1.ID).bind fun (r3 : Chain × Int) => some (r3.snd, r3.fst)
            else
              (bif x1.Kind == (2 : Int) then
                    (chain_Clear N x0 x1.ID x1.By).bind fun (r4 : Chain × Int) => some (r4.snd, r4.fst)
                  else
                    (bif x1.Kind == (3 : Int) then
                          (chain_Take N x0 x1.By).bind fun (r5 : Chain × Int) => some (r5.snd, r5.fst)
                        else
                          (bif x1.Kind == (4 : Int) then
                                (chain_Bypass N x0 x1.ID x1.By x1.Time).bind fun (r6 : Chain × Int) =>
                                  some (r6.snd, r6.fst)
                              else (chain_Expire N x0 x1.Time).bind fun (r7 : Chain) => some ((0 : Int), r7)).bind
                            fun (r8 : Int × Chain) => some r8).bind
                      fun (r9 : Int × Chain) => some r9).bind
                fun (r10 : Int × Chain) => some r10).bind
          fun (r11 : Int × Chain) => some r11).bind
    fun (r12 : Int × Chain) => bif r12.fst != (0 : Int) then some (x0, false) else some (r12.snd, true)
theorem d_l16_do (N : Nat) : DenF Try.prog 30 ⟨[.t_Chain, .t_Op], [.t_Chain, .t_bool], [[none, none], [none]], l16_do N⟩ :=
  den_of (N := N) (gam := [(14, ⟨[.t_Chain, .t_i64], [.t_Chain, .t_i64], [[some 48, none], [none]], chain_Break N⟩), (16, ⟨[.t_Chain, .t_i64], [.t_Chain, .t_i64], [[some 48, none], [none]], chain_Make N⟩), (18, ⟨[.t_Chain, .t_i64, .t_i64], [.t_Chain, .t_i64], [[some 48, none], [none]], chain_Clear N⟩), (21, ⟨[.t_Chain, .t_i64], [.t_Chain, .t_i64], [[some 48, none], [none]], chain_Take N⟩), (23, ⟨[.t_Chain, .t_i64, .t_i64, .t_i64], [.t_Chain, .t_i64], [[some 48, none], [none]], chain_Bypass N⟩), (25, ⟨[.t_Chain, .t_i64], [.t_Chain], [[some 48, none]], chain_Expire N⟩)]) (txt := []) (hints := [(30, [([1, 0, 1, 0, 1, 1], ⟨[2, 4, 6], [], [(.nrm, [.reg 7 .t_i64 [none], .var 6 .t_Chain [none, none]])]⟩), ([1, 1, 1, 0, 1, 0, 1, 1], ⟨[2, 4, 6], [], [(.nrm, [.reg 7 .t_i64 [none], .var 6 .t_Chain [none, none]])]⟩), ([1, 1, 1, 1, 1, 0, 1, 0, 1, 1], ⟨[2, 4, 6], [], [(.nrm, [.reg 7 .t_i64 [none], .var 6 .t_Chain [none, none]])]⟩), ([1, 1, 1, 1, 1, 1, 1, 0, 1, 0, 1, 1], ⟨[2, 4, 6], [], [(.nrm, [.reg 7 .t_i64 [none], .var 6 .t_Chain [none, none]])]⟩), ([1, 1, 1, 1, 1, 1, 1, 1, 1, 0, 1, 0, 1, 1], ⟨[2, 4, 6], [], [(.nrm, [.reg 7 .t_i64 [none], .var 6 .t_Chain [none, none]])]⟩)])]) mixed (.cons (d_chain_Break N) (.cons (d_chain_Make N) (.cons (d_chain_Clear N) (.cons (d_chain_Take N) (.cons (d_chain_Bypass N) (.cons (d_chain_Expire N) .nil)))))) .nil Try.func30 (by kernel_rfl) (by kernel_rfl)

def l16_same (N : Nat) (x0 x1 : Chain) : Option Bool :=
 
  bif (↑x0.Contacts.length : Int) != (↑x1.Contacts.length : Int) then some false
  else
    (whileF N
          (fun (p2 : Int) =>
            bif decide (p2 < (↑x0.Contacts.length : Int)) then
              (bif decide ((0 : Int) ≤ p2) && decide (p2 < (↑x0.Contacts.length : Int)) then
                    bif decide ((0 : Int) ≤ p2) && decide (p2 < (↑x1.Contacts.length : Int)) then
                      bif (x0.Contacts.getD p2.toNat z_Contact).ID != (x1.Contacts.getD p2.toNat z_Contact).ID then
                        some true
                      else
                        bif decide ((0 : Int) ≤ p2) && decide (p2 < (↑x0.Contacts.length : Int)) then
                          bif decide ((0 : Int) ≤ p2) && decide (p2 < (↑x1.Contacts.length : Int)) then
                            some
                              !(x0.Contacts.getD p2.toNat z_Contact).Critical ==
                                  (x1.Contacts.getD p2.toNat z_Contact).Critical
                          else none
                        else none
                    else none
                  else none).bind
                fun (r3 : Bool) =>
                bif r3 then some (Sum.inr (Sum.inr false)) else some (Sum.inl (IntKind.i64.wrap (p2 + (1 : Int))))
            else some (Sum.inr (Sum.inl ())))
          (0 : Int)).bind
      fun (r4 : Unit ⊕ Bool) => Sum.elim (fun (p5 : Unit) => some true) (fun (p6 : Bool) => some p6) r4
theorem d_l16_same (N : Nat) : DenF Try.prog 31 ⟨[.t_Chain, .t_Chain], [.t_bool], [[none]], l16_same N⟩ :=
  den_of (N := N) (gam := []) (txt := []) (hints := [(31, [([0, 1, 0, 1, 1], ⟨[2, 3], [.reg 5 .t_i64 [none]], [(.ex 0, []), (.ret, [.reg 4 .t_bool [none]])]⟩), ([0, 0, 0, 1, 0, 0, 1, 0, 1, 1], ⟨[2, 3, 5], [], [(.nrm, [.reg 47 .t_bool [none]])]⟩)])]) mixed .nil .nil Try.func31 (by kernel_rfl) (by kernel_rfl)

def l16_ChainStays (N : Nat) (x0 : Chain) (x1 : List Op) : Option Bool :=
 
  (l16_alive N).bind fun (r2 : Bool) =>
    bif !r2 then some false
    else
      ((chain_Right N x0).bind fun (r3 : Int) =>
            bif r3 != (0 : Int) then some true else some (decide ((↑x1.length : Int) > (30 : Int)))).bind
        fun (r4 : Bool) =>
        bif r4 then some true
        else
          (whileF N
                (fun (p5 : Int × Chain) =>
                  bif decide (p5.fst < (↑x1.length : Int)) then
                    bif decide ((0 : Int) ≤ p5.fst) && decide (p5.fst < (↑x1.length : Int)) then
                      (l16_do N p5.snd (x1.getD (Int.toNat p5.fst) z_Op)).bind fun (r6 : Chain × Bool) =>
                        ((chain_Right N r6.fst).bind fun (r7 : Int) =>
                              bif r7 != (0 : Int) then some true
                              else (l16_same N r6.fst x0).bind fun (r8 : Bool) => some !r8).bind
                          fun (r9 : Bool) =>
                          bif r9 then some (Sum.inr (Sum.inr (false, r6.fst)))
                          else some (Sum.inl (IntKind.i64.wrap (p5.fst + (1 : Int)), r6.fst))
                    else none
                  else some (Sum.inr (Sum.inl p5.snd)))
                ((0 : Int), x0)).bind
            fun (r10 : Chain ⊕ Bool × Chain) =>
            Sum.elim (fun (p11 : Chain) => some true) (fun (p12 : Bool × Chain) => some p12.fst) r10
theorem d_l16_ChainStays (N : Nat) : DenF Try.prog 8 ⟨[.t_Chain, .l_Op], [.t_bool], [[none]], l16_ChainStays N⟩ :=
  den_of (N := N) (gam := [(11, ⟨[], [.t_bool], [[none]], l16_alive N⟩), (12, ⟨[.t_Chain], [.t_i64], [[none]], chain_Right N⟩), (30, ⟨[.t_Chain, .t_Op], [.t_Chain, .t_bool], [[none, none], [none]], l16_do N⟩), (31, ⟨[.t_Chain, .t_Chain], [.t_bool], [[none]], l16_same N⟩)]) (txt := []) (hints := [(8, [([0, 0, 1, 1], ⟨[1, 2], [], [(.nrm, [.reg 16 .t_bool [none]])]⟩), ([0, 1, 0, 1, 1, 1, 1], ⟨[1, 2, 5], [.reg 6 .t_i64 [none], .var 5 .t_Chain [none, none]], [(.ex 0, [.var 5 .t_Chain [none, none]]), (.ret, [.reg 4 .t_bool [none], .var 5 .t_Chain [none, none]])]⟩), ([0, 1, 0, 0, 1, 0, 0, 1, 0, 1, 1, 1, 1], ⟨[1, 2, 5, 6], [], [(.nrm, [.reg 41 .t_bool [none]])]⟩)])]) mixed (.cons (d_l16_alive N) (.cons (d_chain_Right N) (.cons (d_l16_do N) (.cons (d_l16_same N) .nil)))) .nil Try.func8 (by kernel_rfl) (by kernel_rfl)

def l16_ChainOne (N : Nat) (x0 : Chain) (x1 : List Op) : Option Bool :=
 
  (l16_alive N).bind fun (r2 : Bool) =>
    bif !r2 then some false
    else
      ((chain_Right N x0).bind fun (r3 : Int) =>
            bif r3 != (0 : Int) then some true else some (decide ((↑x1.length : Int) > (30 : Int)))).bind
        fun (r4 : Bool) =>
        bif r4 then some true
        else
          (whileF N
                (fun (p5 : Int × Chain) =>
                  bif decide (p5.fst < (↑x1.length : Int)) then
                    bif decide ((0 : Int) ≤ p5.fst) && decide (p5.fst < (↑x1.length : Int)) then
                      (l16_do N p5.snd (x1.getD (Int.toNat p5.fst) z_Op)).bind fun (r6 : Chain × Bool) =>
                        (whileF N
                              (fun (p7 : Int × Int) =>
                                bif decide (p7.snd < (↑r6.fst.Contacts.length : Int)) then
                                  bif
                                      decide ((0 : Int) ≤ p7.snd) &&
                                        decide (p7.snd < (↑r6.fst.Contacts.length : Int)) then
                                    (bif (r6.fst.Contacts.getD (Int.toNat p7.snd) z_Contact).Until != (0 : Int) then
                                          bif
                                              decide ((0 : Int) ≤ p7.snd) &&
                                                decide (p7.snd < (↑r6.fst.Contacts.length : Int)) then
                                            bif (r6.fst.Contacts.getD (Int.toNat p7.snd) z_Contact).Critical then
                                              some (Sum.inr false)
                                            else some (Sum.inl (IntKind.i64.wrap (p7.fst + (1 : Int))))
                                          else none
                                        else some (Sum.inl p7.fst)).bind
                                      fun (r8 : Int ⊕ Bool) =>
                                      Sum.elim
                                        (fun (p9 : Int) => some (Sum.inl (p9, IntKind.i64.wrap (p7.snd + (1 : Int)))))
                                        (fun (p10 : Bool) => some (Sum.inr (Sum.inr p10))) r8
                                  else none
                                else some (Sum.inr (Sum.inl p7.fst)))
                              ((0 : Int), (0 : Int))).bind
                          fun (r11 : Int ⊕ Bool) =>
                          Sum.elim
                            (fun (p12 : Int) =>
                              (bif decide (p12 > (1 : Int)) then some true
                                  else
                                    bif decide (p12 > (0 : Int)) then some (r6.fst.Key == (0 : Int))
                                    else some false).bind
                                fun (r13 : Bool) =>
                                bif r13 then some (Sum.inr (Sum.inr (false, r6.fst)))
                                else some (Sum.inl (IntKind.i64.wrap (p5.fst + (1 : Int)), r6.fst)))
                            (fun (p14 : Bool) => some (Sum.inr (Sum.inr (p14, r6.fst)))) r11
                    else none
                  else some (Sum.inr (Sum.inl p5.snd)))
                ((0 : Int), x0)).bind
            fun (r15 : Chain ⊕ Bool × Chain) =>
            Sum.elim (fun (p16 : Chain) => some true) (fun (p17 : Bool × Chain) => some p17.fst) r15
theorem d_l16_ChainOne (N : Nat) : DenF Try.prog 9 ⟨[.t_Chain, .l_Op], [.t_bool], [[none]], l16_ChainOne N⟩ :=
  den_of (N := N) (gam := [(11, ⟨[], [.t_bool], [[none]], l16_alive N⟩), (12, ⟨[.t_Chain], [.t_i64], [[none]], chain_Right N⟩), (30, ⟨[.t_Chain, .t_Op], [.t_Chain, .t_bool], [[none, none], [none]], l16_do N⟩)]) (txt := []) (hints := [(9, [([0, 0, 1, 1], ⟨[1, 2], [], [(.nrm, [.reg 18 .t_bool [none]])]⟩), ([0, 1, 0, 1, 1, 1, 1], ⟨[1, 5], [.reg 6 .t_i64 [none], .var 5 .t_Chain [none, none]], [(.ex 0, [.var 5 .t_Chain [none, none]]), (.ret, [.reg 4 .t_bool [none], .var 5 .t_Chain [none, none]])]⟩), ([0, 1, 0, 1, 1, 0, 0, 1, 0, 0, 1, 0, 1, 1, 1, 1], ⟨[1, 5, 6], [.reg 7 .t_i64 [none], .reg 8 .t_i64 [none]], [(.ex 2, [.reg 7 .t_i64 [none]]), (.ret, [.reg 4 .t_bool [none]])]⟩), ([1, 0, 0, 1, 0, 0, 1, 0, 1, 1, 0, 0, 1, 0, 0, 1, 0, 1, 1, 1, 1], ⟨[1, 5, 6, 8], [], [(.nrm, [.reg 7 .t_i64 [none]]), (.ret, [.reg 4 .t_bool [none]])]⟩), ([0, 1, 1, 1, 0, 0, 1, 0, 0, 1, 0, 1, 1, 1, 1], ⟨[1, 5, 6], [], [(.nrm, [.reg 67 .t_bool [none]])]⟩)])]) mixed (.cons (d_l16_alive N) (.cons (d_chain_Right N) (.cons (d_l16_do N) .nil))) .nil Try.func9 (by kernel_rfl) (by kernel_rfl)

def l16_has (N : Nat) (x0 : List Int) (x1 : Int) : Option Bool :=
 
  (whileF N
        (fun (p2 : Int) =>
          bif decide (p2 < (↑x0.length : Int)) then
            bif decide ((0 : Int) ≤ p2) && decide (p2 < (↑x0.length : Int)) then
              bif x0.getD p2.toNat (0 : Int) == x1 then some (Sum.inr (Sum.inr true))
              else some (Sum.inl (IntKind.i64.wrap (p2 + (1 : Int))))
            else none
          else some (Sum.inr (Sum.inl ())))
        (0 : Int)).bind
    fun (r3 : Unit ⊕ Bool) => Sum.elim (fun (p4 : Unit) => some false) (fun (p5 : Bool) => some p5) r3
theorem d_l16_has (N : Nat) : DenF Try.prog 32 ⟨[.l_i64, .t_i64], [.t_bool], [[none]], l16_has N⟩ :=
  den_of (N := N) (gam := []) (txt := []) (hints := [(32, [([0, 1, 0, 1], ⟨[0, 1], [.reg 5 .t_i64 [none]], [(.ex 0, []), (.ret, [.reg 4 .t_bool [none]])]⟩)])]) mixed .nil .nil Try.func32 (by kernel_rfl) (by kernel_rfl)

def l16_ChainInterrupts (N : Nat) (x0 : Chain) (x1 : Int) (x2 : List Op) (x3 : Int) : Option Bool :=
 
  (l16_alive N).bind fun (r4 : Bool) =>
    bif !r4 then some false
    else
      ((chain_Right N x0).bind fun (r5 : Int) =>
            bif r5 != (0 : Int) then some true else some (decide ((↑x2.length : Int) > (30 : Int)))).bind
        fun (r6 : Bool) =>
        bif r6 then some true
        else
          (l16_do N x0 (Op.mk (0 : Int) x1 (0 : Int) (0 : Int))).bind fun (r7 : Chain × Bool) =>
            bif !r7.snd then some true
            else
              (whileF N
                    (fun (p8 : Bool × Int) =>
                      bif decide (p8.snd < (↑r7.fst.Contacts.length : Int)) then
                        (bif p8.fst then some true
                            else
                              bif decide ((0 : Int) ≤ p8.snd) && decide (p8.snd < (↑r7.fst.Contacts.length : Int)) then
                                bif (r7.fst.Contacts.getD (Int.toNat p8.snd) z_Contact).ID == x1 then
                                  bif
                                      decide ((0 : Int) ≤ p8.snd) &&
                                        decide (p8.snd < (↑r7.fst.Contacts.length : Int)) then
                                    some (decide (x3 < (r7.fst.Contacts.getD (Int.toNat p8.snd) z_Contact).Until))
                                  else none
                                else some false
                              else none).bind
                          fun (r9 : Bool) => some (Sum.inl (r9, IntKind.i64.wrap (p8.snd + (1 : Int))))
                      else some (Sum.inr p8.fst))
                    (false, (0 : Int))).bind
                fun (r10 : Bool) =>
                (whileF N
                      (fun (p11 : Bool × Bool × Int × Chain) =>
                        bif decide (p11.snd.snd.fst < (↑x2.length : Int)) then
                          (bif
                                  decide ((0 : Int) ≤ p11.snd.snd.fst) &&
                                    decide (p11.snd.snd.fst < (↑x2.length : Int)) then
                                (l16_do N p11.snd.snd.snd (x2.getD (Int.toNat p11.snd.snd.fst) z_Op)).bind
                                  fun (r12 : Chain × Bool) =>
                                  (bif !r12.snd then some true
                                      else
                                        bif
                                            decide ((0 : Int) ≤ p11.snd.snd.fst) &&
                                              decide (p11.snd.snd.fst < (↑x2.length : Int)) then
                                          some ((x2.getD (Int.toNat p11.snd.snd.fst) z_Op).ID != x1)
                                        else none).bind
                                    fun (r13 : Bool) =>
                                    bif r13 then some (Sum.inl (p11.fst, p11.snd.fst, r12.fst))
                                    else
                                      bif
                                          decide ((0 : Int) ≤ p11.snd.snd.fst) &&
                                            decide (p11.snd.snd.fst < (↑x2.length : Int)) then
                                        (bif (x2.getD (Int.toNat p11.snd.snd.fst) z_Op).Kind == (0 : Int) then
                                              some (Sum.inl (false, p11.snd.fst))
                                            else
                                              (bif (x2.getD (Int.toNat p11.snd.snd.fst) z_Op).Kind == (2 : Int) then
                                                    some (Sum.inl (true, p11.snd.fst))
                                                  else
                                                    (bif
                                                            (x2.getD (Int.toNat p11.snd.snd.fst) z_Op).Kind ==
                                                              (4 : Int) then
                                                          (bif p11.snd.snd.snd.Key == (0 : Int) then some true
                                                              else
                                                                bif
                                                                    decide ((0 : Int) ≤ p11.snd.snd.fst) &&
                                                                      decide (p11.snd.snd.fst < (↑x2.length : Int)) then
                                                                  some
                                                                    (p11.snd.snd.snd.Key !=
                                                                      (x2.getD (Int.toNat p11.snd.snd.fst) z_Op).By)
                                                                else none).bind
                                                            fun (r14 : Bool) =>
                                                            bif r14 then some (Sum.inr false)
                                                            else
                                                              (bif p11.snd.fst then some true
                                                                  else
                                                                    bif
                                                                        decide ((0 : Int) ≤ p11.snd.snd.fst) &&
                                                                          decide
                                                                            (p11.snd.snd.fst < (↑x2.length : Int)) then
                                                                      some
                                                                        (decide
                                                                          (x3 <
                                                                            (x2.getD (Int.toNat p11.snd.snd.fst)
                                                                                z_Op).Time))
                                                                    else none).bind
                                                                fun (r15 : Bool) => some (Sum.inl r15)
                                                        else some (Sum.inl p11.snd.fst)).bind
                                                      fun (r16 : Bool ⊕ Bool) =>
                                                      Sum.elim (fun (p17 : Bool) => some (Sum.inl (p11.fst, p17)))
                                                        (fun (p18 : Bool) => some (Sum.inr p18)) r16).bind
                                                fun (r19 : Bool × Bool ⊕ Bool) =>
                                                Sum.elim (fun (p20 : Bool × Bool) => some (Sum.inl p20))
                                                  (fun (p21 : Bool) => some (Sum.inr p21)) r19).bind
                                          fun (r22 : Bool × Bool ⊕ Bool) =>
                                          Sum.elim
                                            (fun (p23 : Bool × Bool) => some (Sum.inl (p23.fst, p23.snd, r12.fst)))
                                            (fun (p24 : Bool) => some (Sum.inr (p24, r12.fst))) r22
                                      else none
                              else none).bind
                            fun (r25 : Bool × Bool × Chain ⊕ Bool × Chain) =>
                            Sum.elim
                              (fun (p26 : Bool × Bool × Chain) =>
                                some
                                  (Sum.inl
                                    (p26.fst, p26.snd.fst, IntKind.i64.wrap (p11.snd.snd.fst + (1 : Int)),
                                      p26.snd.snd)))
                              (fun (p27 : Bool × Chain) => some (Sum.inr (Sum.inr p27))) r25
                        else some (Sum.inr (Sum.inl (p11.fst, p11.snd.fst, p11.snd.snd.snd))))
                      (false, r10, (0 : Int), r7.fst)).bind
                  fun (r28 : Bool × Bool × Chain ⊕ Bool × Chain) =>
                  Sum.elim
                    (fun (p29 : Bool × Bool × Chain) =>
                      (chain_Faults N p29.snd.snd x3).bind fun (r30 : List Int) =>
                        (l16_has N r30 x1).bind fun (r31 : Bool) =>
                          bif r31 then some !p29.fst
                          else (bif p29.fst then some true else some p29.snd.fst).bind fun (r32 : Bool) => some r32)
                    (fun (p33 : Bool × Chain) => some p33.fst) r28
theorem d_l16_ChainInterrupts (N : Nat) : DenF Try.prog 10 ⟨[.t_Chain, .t_i64, .l_Op, .t_i64], [.t_bool], [[none]], l16_ChainInterrupts N⟩ :=
  den_of (N := N) (gam := [(11, ⟨[], [.t_bool], [[none]], l16_alive N⟩), (12, ⟨[.t_Chain], [.t_i64], [[none]], chain_Right N⟩), (30, ⟨[.t_Chain, .t_Op], [.t_Chain, .t_bool], [[none, none], [none]], l16_do N⟩), (28, ⟨[.t_Chain, .t_i64], [.l_i64], [[some 3]], chain_Faults N⟩), (32, ⟨[.l_i64, .t_i64], [.t_bool], [[none]], l16_has N⟩)]) (txt := []) (hints := [(10, [([0, 0, 1, 1], ⟨[1, 2, 3, 4], [], [(.nrm, [.reg 27 .t_bool [none]])]⟩), ([0, 1, 0, 1, 1, 1, 1, 1, 1], ⟨[1, 2, 3, 9, 11], [.reg 12 .t_bool [none], .reg 13 .t_i64 [none]], [(.ex 0, [.reg 12 .t_bool [none]])]⟩), ([0, 0, 1, 0, 0, 1, 0, 1, 1, 1, 1, 1, 1], ⟨[1, 2, 3, 9, 11, 13], [], [(.nrm, [.reg 12 .t_bool [none]])]⟩), ([0, 1, 0, 1, 1, 1, 1, 1, 1, 1], ⟨[1, 2, 3, 9], [.reg 11 .t_bool [none], .reg 12 .t_bool [none], .reg 14 .t_i64 [none], .var 9 .t_Chain [none, none]], [(.ex 2, [.reg 11 .t_bool [none], .reg 12 .t_bool [none], .var 9 .t_Chain [none, none]]), (.ret, [.reg 8 .t_bool [none], .var 9 .t_Chain [none, none]])]⟩), ([0, 1, 0, 0, 1, 0, 1, 1, 1, 1, 1, 1, 1], ⟨[1, 2, 3, 9, 14], [], [(.nrm, [.reg 11 .t_bool [none], .reg 12 .t_bool [none], .var 9 .t_Chain [none, none]]), (.ret, [.reg 8 .t_bool [none], .var 9 .t_Chain [none, none]])]⟩), ([0, 0, 1, 1, 1, 0, 0, 1, 0, 0, 1, 0, 1, 1, 1, 1, 1, 1, 1], ⟨[1, 2, 3, 9, 11, 12, 14, 15], [], [(.nrm, [.reg 93 .t_bool [none]])]⟩), ([1, 0, 1, 1, 1, 1, 1, 0, 0, 1, 0, 0, 1, 0, 1, 1, 1, 1, 1, 1, 1], ⟨[1, 2, 3, 9, 14], [], [(.nrm, [.reg 11 .t_bool [none], .reg 12 .t_bool [none]]), (.ret, [.reg 8 .t_bool [none]])]⟩), ([1, 1, 1, 0, 1, 1, 1, 1, 1, 0, 0, 1, 0, 0, 1, 0, 1, 1, 1, 1, 1, 1, 1], ⟨[1, 2, 3, 9, 14], [], [(.nrm, [.reg 11 .t_bool [none], .reg 12 .t_bool [none]]), (.ret, [.reg 8 .t_bool [none]])]⟩), ([1, 1, 1, 1, 1, 0, 1, 1, 1, 1, 1, 0, 0, 1, 0, 0, 1, 0, 1, 1, 1, 1, 1, 1, 1], ⟨[1, 2, 3, 9, 11, 14], [], [(.nrm, [.reg 12 .t_bool [none]]), (.ret, [.reg 8 .t_bool [none]])]⟩), ([0, 0, 0, 1, 1, 1, 1, 1, 0, 1, 1, 1, 1, 1, 0, 0, 1, 0, 0, 1, 0, 1, 1, 1, 1, 1, 1, 1], ⟨[1, 2, 3, 9, 11, 12, 14], [], [(.nrm, [.reg 115 .t_bool [none]])]⟩), ([1, 0, 1, 1, 1, 1, 1, 0, 1, 1, 1, 1, 1, 0, 0, 1, 0, 0, 1, 0, 1, 1, 1, 1, 1, 1, 1], ⟨[1, 2, 3, 9, 11, 14], [], [(.nrm, [.reg 12 .t_bool [none]])]⟩), ([0, 1, 1, 1, 1, 1, 1, 1, 1, 1], ⟨[], [], [(.nrm, [.reg 8 .t_bool [none]])]⟩)])]) mixed (.cons (d_l16_alive N) (.cons (d_chain_Right N) (.cons (d_l16_do N) (.cons (d_chain_Faults N) (.cons (d_l16_has N) .nil))))) .nil Try.func10 (by kernel_rfl) (by kernel_rfl)
end Go.Proofs.Ytpjafflngappaaa
