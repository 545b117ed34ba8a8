/- Written by a program (gen.py, asm.py): what each function computes, as a plain function, and that its text computes it. No condition. -/
import Derived.Test.YthjmbcnohgaihaaGreatFn9
import Derived.Test.YthjmbcnohgaihaaGreatCmo
namespace Go.Proofs.YthjmbcnohgaihaaGreat
open Go.Cm Go.Proofs
set_option linter.unusedVariables false
set_option maxRecDepth 100000

def r16_Make (N : Nat) (x0 : Chain) (x1 : Int) : Option (Chain × Int) :=
 
  (r16_index N x0.Contacts x1).bind fun (r2 : Int) =>
    bif decide (r2 < (0 : Int)) then some (z_Chain, (8 : Int))
    else
      bif decide ((0 : Int) ≤ r2) && decide (r2 < (↑x0.Contacts.length : Int)) then
        (r16_with N x0 r2
              (Contact.mk (x0.Contacts.getD r2.toNat z_Contact).ID (x0.Contacts.getD r2.toNat z_Contact).Critical true
                (x0.Contacts.getD r2.toNat z_Contact).Latched (x0.Contacts.getD r2.toNat z_Contact).Until)).bind
          fun (r3 : Chain) => some (r3, (0 : Int))
      else none
theorem d_r16_Make (N : Nat) : DenF Tryz.prog 99 ⟨[.t_Chain, .t_i64], [.t_Chain, .t_i64], [[some 92, none], [none]], r16_Make N⟩ :=
  den_of (N := N) (gam := [(64, ⟨[.l_Contact, .t_i64], [.t_i64], [[none]], r16_index N⟩), (140, ⟨[.t_Chain, .t_i64, .t_Contact], [.t_Chain], [[some 92, none]], r16_with N⟩)]) (txt := []) (hints := []) mixed (.cons (d_r16_index N) (.cons (d_r16_with N) .nil)) .nil Tryz.func99 (by kernel_rfl) (by kernel_rfl)

def r16_Clear (N : Nat) (x0 : Chain) (x1 x2 : Int) : Option (Chain × Int) :=
 
  (r16_index N x0.Contacts x1).bind fun (r3 : Int) =>
    bif decide (r3 < (0 : Int)) then some (z_Chain, (8 : Int))
    else
      bif decide ((0 : Int) ≤ r3) && decide (r3 < (↑x0.Contacts.length : Int)) then
        (r16_in N x2 (1 : Int) (9999 : Int)).bind fun (r4 : Bool) =>
          bif !r4 then some (z_Chain, (17 : Int))
          else
            bif !(x0.Contacts.getD r3.toNat z_Contact).Closed then some (z_Chain, (10 : Int))
            else
              (r16_with N x0 r3
                    (Contact.mk (x0.Contacts.getD r3.toNat z_Contact).ID (x0.Contacts.getD r3.toNat z_Contact).Critical
                      (x0.Contacts.getD r3.toNat z_Contact).Closed false
                      (x0.Contacts.getD r3.toNat z_Contact).Until)).bind
                fun (r5 : Chain) => some (r5, (0 : Int))
      else none
theorem d_r16_Clear (N : Nat) : DenF Tryz.prog 100 ⟨[.t_Chain, .t_i64, .t_i64], [.t_Chain, .t_i64], [[some 92, none], [none]], r16_Clear N⟩ :=
  den_of (N := N) (gam := [(64, ⟨[.l_Contact, .t_i64], [.t_i64], [[none]], r16_index N⟩), (63, ⟨[.t_i64, .t_i64, .t_i64], [.t_bool], [[none]], r16_in N⟩), (140, ⟨[.t_Chain, .t_i64, .t_Contact], [.t_Chain], [[some 92, none]], r16_with N⟩)]) (txt := []) (hints := []) mixed (.cons (d_r16_index N) (.cons (d_r16_in N) (.cons (d_r16_with N) .nil))) .nil Tryz.func100 (by kernel_rfl) (by kernel_rfl)

def r16_Take (N : Nat) (x0 : Chain) (x1 : Int) : Option (Chain × Int) :=
 
  (r16_in N x1 (1 : Int) (9999 : Int)).bind fun (r2 : Bool) =>
    bif !r2 then some (z_Chain, (17 : Int))
    else
      (bif x0.Key != (0 : Int) then some (x0.Key != x1) else some false).bind fun (r3 : Bool) =>
        bif r3 then some (z_Chain, (15 : Int))
        else
          bif x0.Key == (0 : Int) then
            (r16_with N x0 (-1 : Int) z_Contact).bind fun (r4 : Chain) => some (Chain.mk r4.Contacts x1, (0 : Int))
          else
            (r16_Expire N x0 (20000000 : Int)).bind fun (r5 : Chain) => some (Chain.mk r5.Contacts (0 : Int), (0 : Int))
theorem d_r16_Take (N : Nat) : DenF Tryz.prog 101 ⟨[.t_Chain, .t_i64], [.t_Chain, .t_i64], [[some 92, none], [none]], r16_Take N⟩ :=
  den_of (N := N) (gam := [(63, ⟨[.t_i64, .t_i64, .t_i64], [.t_bool], [[none]], r16_in N⟩), (140, ⟨[.t_Chain, .t_i64, .t_Contact], [.t_Chain], [[some 92, none]], r16_with N⟩), (108, ⟨[.t_Chain, .t_i64], [.t_Chain], [[some 92, none]], r16_Expire N⟩)]) (txt := []) (hints := [(101, [([0, 0, 1, 1], ⟨[1, 2, 4], [], [(.nrm, [.reg 20 .t_bool [none]])], []⟩)])]) mixed (.cons (d_r16_in N) (.cons (d_r16_with N) (.cons (d_r16_Expire N) .nil))) .nil Tryz.func101 (by kernel_rfl) (by kernel_rfl)

def r16_Bypass (N : Nat) (x0 : Chain) (x1 x2 x3 : Int) : Option (Chain × Int) :=
 
  (r16_index N x0.Contacts x1).bind fun (r4 : Int) =>
    bif decide (r4 < (0 : Int)) then some (z_Chain, (8 : Int))
    else
      bif decide ((0 : Int) ≤ r4) && decide (r4 < (↑x0.Contacts.length : Int)) then
        (bif x2 == (0 : Int) then some true else some (x2 != x0.Key)).bind fun (r5 : Bool) =>
          bif r5 then some (z_Chain, (17 : Int))
          else
            bif (x0.Contacts.getD r4.toNat z_Contact).Critical then some (z_Chain, (13 : Int))
            else
              (r16_bypassed N x0.Contacts).bind fun (r6 : Int) =>
                (bif decide (r6 ≥ (0 : Int)) then some (r6 != r4) else some false).bind fun (r7 : Bool) =>
                  bif r7 then some (z_Chain, (15 : Int))
                  else
                    (r16_in N x3 (1 : Int) (20000000 : Int)).bind fun (r8 : Bool) =>
                      bif !r8 then some (z_Chain, (2 : Int))
                      else
                        (r16_with N x0 r4
                              (Contact.mk (x0.Contacts.getD r4.toNat z_Contact).ID
                                (x0.Contacts.getD r4.toNat z_Contact).Critical
                                (x0.Contacts.getD r4.toNat z_Contact).Closed
                                (x0.Contacts.getD r4.toNat z_Contact).Latched x3)).bind
                          fun (r9 : Chain) => some (r9, (0 : Int))
      else none
theorem d_r16_Bypass (N : Nat) : DenF Tryz.prog 102 ⟨[.t_Chain, .t_i64, .t_i64, .t_i64], [.t_Chain, .t_i64], [[some 92, none], [none]], r16_Bypass N⟩ :=
  den_of (N := N) (gam := [(64, ⟨[.l_Contact, .t_i64], [.t_i64], [[none]], r16_index N⟩), (65, ⟨[.l_Contact], [.t_i64], [[none]], r16_bypassed N⟩), (63, ⟨[.t_i64, .t_i64, .t_i64], [.t_bool], [[none]], r16_in N⟩), (140, ⟨[.t_Chain, .t_i64, .t_Contact], [.t_Chain], [[some 92, none]], r16_with N⟩)]) (txt := []) (hints := [(102, [([0, 0, 1, 1, 1, 1], ⟨[3, 4, 8, 10, 11], [], [(.nrm, [.reg 32 .t_bool [none]])], []⟩), ([0, 0, 1, 1, 1, 1, 1, 1, 1], ⟨[3, 4, 8, 10, 11], [], [(.nrm, [.reg 46 .t_bool [none]])], []⟩)])]) mixed (.cons (d_r16_index N) (.cons (d_r16_bypassed N) (.cons (d_r16_in N) (.cons (d_r16_with N) .nil)))) .nil Tryz.func102 (by kernel_rfl) (by kernel_rfl)

def r20_contact (N : Nat) (x0 : LiftState) (x1 : LiftEvent) : Option (LiftState × Int) :=
 
  (bif x1.Kind == (8 : Int) then
        (r16_Break N x0.Chain x1.N).bind fun (r2 : Chain × Int) =>
          some
            (Sum.inl
              (r2.snd,
                LiftState.mk x0.Lift x0.Motor x0.Drive x0.Brakes r2.fst x0.Wind x0.Line x0.Queue x0.Checks x0.Time
                  x0.Mode x0.Up x0.Off,
                z_LiftState))
      else
        (bif x1.Kind == (9 : Int) then
              (r16_Make N x0.Chain x1.N).bind fun (r3 : Chain × Int) =>
                some
                  (Sum.inl
                    (r3.snd,
                      LiftState.mk x0.Lift x0.Motor x0.Drive x0.Brakes r3.fst x0.Wind x0.Line x0.Queue x0.Checks x0.Time
                        x0.Mode x0.Up x0.Off,
                      z_LiftState))
            else
              (bif x1.Kind == (10 : Int) then
                    (r16_Clear N x0.Chain x1.N x1.By).bind fun (r4 : Chain × Int) =>
                      some
                        (Sum.inl
                          (r4.snd,
                            LiftState.mk x0.Lift x0.Motor x0.Drive x0.Brakes r4.fst x0.Wind x0.Line x0.Queue x0.Checks
                              x0.Time x0.Mode x0.Up x0.Off,
                            z_LiftState))
                  else
                    (bif x1.Kind == (11 : Int) then
                          (r16_Take N x0.Chain x1.By).bind fun (r5 : Chain × Int) =>
                            some
                              (Sum.inl
                                (r5.snd,
                                  LiftState.mk x0.Lift x0.Motor x0.Drive x0.Brakes r5.fst x0.Wind x0.Line x0.Queue
                                    x0.Checks x0.Time x0.Mode x0.Up x0.Off,
                                  z_LiftState))
                        else
                          (bif x1.Kind == (12 : Int) then
                                (bif decide (x1.M < (1 : Int)) then some true
                                    else some (decide (x1.M > (3600 : Int)))).bind
                                  fun (r6 : Bool) =>
                                  bif r6 then some (Sum.inr ((2 : Int), x0, x0))
                                  else
                                    (r16_Bypass N x0.Chain x1.N x1.By (IntKind.i64.wrap (x0.Time + x1.M))).bind
                                      fun (r7 : Chain × Int) =>
                                      some
                                        (Sum.inl
                                          (r7.snd, z_LiftState,
                                            LiftState.mk x0.Lift x0.Motor x0.Drive x0.Brakes r7.fst x0.Wind x0.Line
                                              x0.Queue x0.Checks x0.Time x0.Mode x0.Up x0.Off))
                              else some (Sum.inl ((0 : Int), z_LiftState, x0))).bind
                            fun (r8 : Int × LiftState × LiftState ⊕ Int × LiftState × LiftState) =>
                            Sum.elim
                              (fun (p9 : Int × LiftState × LiftState) =>
                                some (Sum.inl (p9.fst, p9.snd.snd, p9.snd.fst)))
                              (fun (p10 : Int × LiftState × LiftState) =>
                                some (Sum.inr (p10.fst, p10.snd.snd, p10.snd.fst)))
                              r8).bind
                      fun (r11 : Int × LiftState × LiftState ⊕ Int × LiftState × LiftState) =>
                      Sum.elim (fun (p12 : Int × LiftState × LiftState) => some (Sum.inl p12))
                        (fun (p13 : Int × LiftState × LiftState) => some (Sum.inr p13)) r11).bind
                fun (r14 : Int × LiftState × LiftState ⊕ Int × LiftState × LiftState) =>
                Sum.elim (fun (p15 : Int × LiftState × LiftState) => some (Sum.inl p15))
                  (fun (p16 : Int × LiftState × LiftState) => some (Sum.inr p16)) r14).bind
          fun (r17 : Int × LiftState × LiftState ⊕ Int × LiftState × LiftState) =>
          Sum.elim (fun (p18 : Int × LiftState × LiftState) => some (Sum.inl p18))
            (fun (p19 : Int × LiftState × LiftState) => some (Sum.inr p19)) r17).bind
    fun (r20 : Int × LiftState × LiftState ⊕ Int × LiftState × LiftState) =>
    Sum.elim (fun (p21 : Int × LiftState × LiftState) => some (p21.snd.fst, p21.fst))
      (fun (p22 : Int × LiftState × LiftState) => some (p22.snd.snd, p22.fst)) r20
theorem d_r20_contact (N : Nat) : DenF Tryz.prog 57 ⟨[.t_LiftState, .t_LiftEvent], [.t_LiftState, .t_i64], [[none, none, none, none, none, none, none, none, none, none, none, none, none, none, none, none, none, none, none, none, none, none, none, none, none, none, none, none, none, none, none, none, none, none, none, none, none], [none]], r20_contact N⟩ :=
  den_of (N := N) (gam := [(98, ⟨[.t_Chain, .t_i64], [.t_Chain, .t_i64], [[some 92, none], [none]], r16_Break N⟩), (99, ⟨[.t_Chain, .t_i64], [.t_Chain, .t_i64], [[some 92, none], [none]], r16_Make N⟩), (100, ⟨[.t_Chain, .t_i64, .t_i64], [.t_Chain, .t_i64], [[some 92, none], [none]], r16_Clear N⟩), (101, ⟨[.t_Chain, .t_i64], [.t_Chain, .t_i64], [[some 92, none], [none]], r16_Take N⟩), (102, ⟨[.t_Chain, .t_i64, .t_i64, .t_i64], [.t_Chain, .t_i64], [[some 92, none], [none]], r16_Bypass N⟩)]) (txt := []) (hints := [(57, [([1, 0, 1, 0, 1, 1], ⟨[2, 4], [], [(.nrm, [.reg 6 .t_i64 [none], .var 2 .t_LiftState [none, none, none, none, none, none, none, none, none, none, none, none, none, none, none, none, none, none, none, none, none, none, none, none, none, none, none, none, none, none, none, none, none, none, none, none, none], .var 4 .t_LiftState [none, none, none, none, none, none, none, none, none, none, none, none, none, none, none, none, none, none, none, none, none, none, none, none, none, none, none, none, none, none, none, none, none, none, none, none, none]]), (.ret, [.reg 5 .t_i64 [none], .var 2 .t_LiftState [none, none, none, none, none, none, none, none, none, none, none, none, none, none, none, none, none, none, none, none, none, none, none, none, none, none, none, none, none, none, none, none, none, none, none, none, none], .var 4 .t_LiftState [none, none, none, none, none, none, none, none, none, none, none, none, none, none, none, none, none, none, none, none, none, none, none, none, none, none, none, none, none, none, none, none, none, none, none, none, none]])], []⟩), ([1, 1, 1, 0, 1, 0, 1, 1], ⟨[2, 4], [], [(.nrm, [.reg 6 .t_i64 [none], .var 2 .t_LiftState [none, none, none, none, none, none, none, none, none, none, none, none, none, none, none, none, none, none, none, none, none, none, none, none, none, none, none, none, none, none, none, none, none, none, none, none, none], .var 4 .t_LiftState [none, none, none, none, none, none, none, none, none, none, none, none, none, none, none, none, none, none, none, none, none, none, none, none, none, none, none, none, none, none, none, none, none, none, none, none, none]]), (.ret, [.reg 5 .t_i64 [none], .var 2 .t_LiftState [none, none, none, none, none, none, none, none, none, none, none, none, none, none, none, none, none, none, none, none, none, none, none, none, none, none, none, none, none, none, none, none, none, none, none, none, none], .var 4 .t_LiftState [none, none, none, none, none, none, none, none, none, none, none, none, none, none, none, none, none, none, none, none, none, none, none, none, none, none, none, none, none, none, none, none, none, none, none, none, none]])], []⟩), ([1, 1, 1, 1, 1, 0, 1, 0, 1, 1], ⟨[2, 4], [], [(.nrm, [.reg 6 .t_i64 [none], .var 2 .t_LiftState [none, none, none, none, none, none, none, none, none, none, none, none, none, none, none, none, none, none, none, none, none, none, none, none, none, none, none, none, none, none, none, none, none, none, none, none, none], .var 4 .t_LiftState [none, none, none, none, none, none, none, none, none, none, none, none, none, none, none, none, none, none, none, none, none, none, none, none, none, none, none, none, none, none, none, none, none, none, none, none, none]]), (.ret, [.reg 5 .t_i64 [none], .var 2 .t_LiftState [none, none, none, none, none, none, none, none, none, none, none, none, none, none, none, none, none, none, none, none, none, none, none, none, none, none, none, none, none, none, none, none, none, none, none, none, none], .var 4 .t_LiftState [none, none, none, none, none, none, none, none, none, none, none, none, none, none, none, none, none, none, none, none, none, none, none, none, none, none, none, none, none, none, none, none, none, none, none, none, none]])], []⟩), ([1, 1, 1, 1, 1, 1, 1, 0, 1, 0, 1, 1], ⟨[2, 4], [], [(.nrm, [.reg 6 .t_i64 [none], .var 2 .t_LiftState [none, none, none, none, none, none, none, none, none, none, none, none, none, none, none, none, none, none, none, none, none, none, none, none, none, none, none, none, none, none, none, none, none, none, none, none, none], .var 4 .t_LiftState [none, none, none, none, none, none, none, none, none, none, none, none, none, none, none, none, none, none, none, none, none, none, none, none, none, none, none, none, none, none, none, none, none, none, none, none, none]]), (.ret, [.reg 5 .t_i64 [none], .var 2 .t_LiftState [none, none, none, none, none, none, none, none, none, none, none, none, none, none, none, none, none, none, none, none, none, none, none, none, none, none, none, none, none, none, none, none, none, none, none, none, none], .var 4 .t_LiftState [none, none, none, none, none, none, none, none, none, none, none, none, none, none, none, none, none, none, none, none, none, none, none, none, none, none, none, none, none, none, none, none, none, none, none, none, none]])], []⟩), ([1, 1, 1, 1, 1, 1, 1, 1, 1, 0, 1, 0, 1, 1], ⟨[2, 4], [], [(.nrm, [.reg 6 .t_i64 [none], .var 4 .t_LiftState [none, none, none, none, none, none, none, none, none, none, none, none, none, none, none, none, none, none, none, none, none, none, none, none, none, none, none, none, none, none, none, none, none, none, none, none, none], .var 2 .t_LiftState [none, none, none, none, none, none, none, none, none, none, none, none, none, none, none, none, none, none, none, none, none, none, none, none, none, none, none, none, none, none, none, none, none, none, none, none, none]]), (.ret, [.reg 5 .t_i64 [none], .var 4 .t_LiftState [none, none, none, none, none, none, none, none, none, none, none, none, none, none, none, none, none, none, none, none, none, none, none, none, none, none, none, none, none, none, none, none, none, none, none, none, none], .var 2 .t_LiftState [none, none, none, none, none, none, none, none, none, none, none, none, none, none, none, none, none, none, none, none, none, none, none, none, none, none, none, none, none, none, none, none, none, none, none, none, none]])], []⟩), ([0, 0, 0, 1, 1, 1, 1, 1, 1, 1, 1, 1, 0, 1, 0, 1, 1], ⟨[2, 3, 4], [], [(.nrm, [.reg 64 .t_bool [none]])], []⟩)])]) mixed (.cons (d_r16_Break N) (.cons (d_r16_Make N) (.cons (d_r16_Clear N) (.cons (d_r16_Take N) (.cons (d_r16_Bypass N) .nil))))) .nil Tryz.func57 (by kernel_rfl) (by kernel_rfl)

def r15_Test (N : Nat) (x0 : List Brake) (x1 x2 x3 : Int) : Option ((List Brake) × Int) :=
 
  (whileF N
        (fun (p4 : Int × Int) =>
          bif decide (p4.snd < (↑x0.length : Int)) then
            bif decide ((0 : Int) ≤ p4.snd) && decide (p4.snd < (↑x0.length : Int)) then
              (bif (x0.getD (Int.toNat p4.snd) z_Brake).ID == x1 then some p4.snd else some p4.fst).bind
                fun (r5 : Int) => some (Sum.inl (r5, IntKind.i64.wrap (p4.snd + (1 : Int))))
            else none
          else some (Sum.inr p4.fst))
        ((-1 : Int), (0 : Int))).bind
    fun (r6 : Int) =>
    bif decide (r6 < (0 : Int)) then some ([], (8 : Int))
    else
      (bif decide (x2 < (0 : Int)) then some true
          else
            bif decide (x2 > (10000000 : Int)) then some true
            else bif decide (x3 < (0 : Int)) then some true else some (decide (x3 > (20000000 : Int)))).bind
        fun (r7 : Bool) =>
        bif r7 then some ([], (2 : Int))
        else
          bif decide ((0 : Int) ≤ r6) && decide (r6 < (↑x0.length : Int)) then
            bif decide (x3 < (x0.getD r6.toNat z_Brake).Tested) then some ([], (11 : Int))
            else
              bif decide ((0 + x0.length) * 40 ≤ 140737488355328) then
                bif decide ((0 : Int) ≤ r6) && decide (r6 < (↑x0.length : Int)) then
                  (some
                        (x0.set r6.toNat
                          (Brake.mk (x0.getD r6.toNat z_Brake).ID (x0.getD r6.toNat z_Brake).Kind
                            (x0.getD r6.toNat z_Brake).Force x3 (x0.getD r6.toNat z_Brake).Measured))).bind
                    fun (r8 : List Brake) =>
                    bif decide ((0 : Int) ≤ r6) && decide (r6 < (↑r8.length : Int)) then
                      (some
                            (r8.set r6.toNat
                              (Brake.mk (r8.getD r6.toNat z_Brake).ID (r8.getD r6.toNat z_Brake).Kind
                                (r8.getD r6.toNat z_Brake).Force (r8.getD r6.toNat z_Brake).Tested x2))).bind
                        fun (r9 : List Brake) => some (r9, (0 : Int))
                    else none
                else none
              else none
          else none
theorem d_r15_Test (N : Nat) : DenF Tryz.prog 103 ⟨[.l_Brake, .t_i64, .t_i64, .t_i64], [.l_Brake, .t_i64], [[some 89], [none]], r15_Test N⟩ :=
  den_of (N := N) (gam := []) (txt := []) (hints := [(103, [([0, 1, 0, 1, 1], ⟨[0, 1, 2, 3], [.reg 10 .t_i64 [none], .reg 11 .t_i64 [none]], [(.ex 0, [.reg 10 .t_i64 [none]])], []⟩), ([1, 0, 0, 1, 0, 0, 1, 0, 1, 1], ⟨[0, 1, 2, 3, 11], [], [(.nrm, [.reg 10 .t_i64 [none]])], []⟩), ([0, 0, 1, 1, 1, 1], ⟨[0, 2, 3, 10], [], [(.nrm, [.reg 42 .t_bool [none]])], []⟩)])]) mixed .nil .nil Tryz.func103 (by kernel_rfl) (by kernel_rfl)

def r19_Sign (N : Nat) (x0 : Checklist) (x1 x2 x3 : Int) : Option (Checklist × Int) :=
 
  (whileF N
        (fun (p4 : Int × Checklist) =>
          bif decide (p4.fst < (↑x0.Items.length : Int)) then
            bif decide ((0 : Int) ≤ p4.fst) && decide (p4.fst < (↑x0.Items.length : Int)) then
              (some [x0.Items.getD (Int.toNat p4.fst) (0 : Int)]).bind fun (r5 : List Int) =>
                bif decide ((p4.snd.Items.length + r5.length) * 8 ≤ 140737488355328) then
                  (some (p4.snd.Items ++ r5)).bind fun (r6 : List Int) =>
                    some (Sum.inl (IntKind.i64.wrap (p4.fst + (1 : Int)), Checklist.mk r6 p4.snd.Every p4.snd.Signs))
                else none
            else none
          else some (Sum.inr p4.snd))
        ((0 : Int), Checklist.mk [] x0.Every [])).bind
    fun (r7 : Checklist) =>
    (whileF N
          (fun (p8 : Int × Checklist) =>
            bif decide (p8.fst < (↑x0.Signs.length : Int)) then
              bif decide ((0 : Int) ≤ p8.fst) && decide (p8.fst < (↑x0.Signs.length : Int)) then
                (bif (x0.Signs.getD (Int.toNat p8.fst) z_Sign).Item != x1 then
                      bif decide ((0 : Int) ≤ p8.fst) && decide (p8.fst < (↑x0.Signs.length : Int)) then
                        (some [x0.Signs.getD (Int.toNat p8.fst) z_Sign]).bind fun (r9 : List Sign) =>
                          bif decide ((p8.snd.Signs.length + r9.length) * 24 ≤ 140737488355328) then
                            (some (p8.snd.Signs ++ r9)).bind fun (r10 : List Sign) =>
                              some (Checklist.mk p8.snd.Items p8.snd.Every r10)
                          else none
                      else none
                    else some p8.snd).bind
                  fun (r11 : Checklist) => some (Sum.inl (IntKind.i64.wrap (p8.fst + (1 : Int)), r11))
              else none
            else some (Sum.inr p8.snd))
          ((0 : Int), r7)).bind
      fun (r12 : Checklist) =>
      (some [Sign.mk x1 x2 x3]).bind fun (r13 : List Sign) =>
        bif decide ((r12.Signs.length + r13.length) * 24 ≤ 140737488355328) then
          (some (r12.Signs ++ r13)).bind fun (r14 : List Sign) =>
            (r19_Right N (Checklist.mk r12.Items r12.Every r14)).bind fun (r15 : Int) =>
              bif r15 != (0 : Int) then some (z_Checklist, r15)
              else some (Checklist.mk r12.Items r12.Every r14, (0 : Int))
        else none
theorem d_r19_Sign (N : Nat) : DenF Tryz.prog 104 ⟨[.t_Checklist, .t_i64, .t_i64, .t_i64], [.t_Checklist, .t_i64], [[some 3, none, some 97], [none]], r19_Sign N⟩ :=
  den_of (N := N) (gam := [(30, ⟨[.t_Checklist], [.t_i64], [[none]], r19_Right N⟩)]) (txt := []) (hints := [(104, [([0, 1, 0, 1, 1], ⟨[1, 2, 3, 4, 8, 10], [.reg 11 .t_i64 [none], .var 10 .t_Checklist [some 3, none, some 97]], [(.ex 0, [.var 10 .t_Checklist [some 3, none, some 97]])], []⟩), ([0, 1, 0, 1, 1, 1], ⟨[1, 2, 3, 4, 8, 10], [.reg 12 .t_i64 [none], .var 10 .t_Checklist [some 3, none, some 97]], [(.ex 2, [.var 10 .t_Checklist [some 3, none, some 97]])], []⟩), ([1, 0, 0, 1, 0, 0, 1, 0, 1, 1, 1], ⟨[1, 2, 3, 4, 8, 10, 12], [], [(.nrm, [.var 10 .t_Checklist [some 3, none, some 97]])], []⟩)])]) mixed (.cons (d_r19_Right N) .nil) .nil Tryz.func104 (by kernel_rfl) (by kernel_rfl)

def r18_Join (N : Nat) (x0 : Queue) (x1 : Int) : Option (Queue × Int) :=
 
  (bif decide (x1 < (1 : Int)) then some true else some (decide (x1 > (16 : Int)))).bind fun (r2 : Bool) =>
    bif r2 then some (z_Queue, (2 : Int))
    else
      bif decide ((↑x0.Groups.length : Int) ≥ (200 : Int)) then some (z_Queue, (9 : Int))
      else
        (r18_own N x0).bind fun (r3 : Queue) =>
          (some [x1]).bind fun (r4 : List Int) =>
            bif decide ((r3.Groups.length + r4.length) * 8 ≤ 140737488355328) then
              (some (r3.Groups ++ r4)).bind fun (r5 : List Int) => some (Queue.mk r5 r3.Singles, (0 : Int))
            else none
theorem d_r18_Join (N : Nat) : DenF Tryz.prog 105 ⟨[.t_Queue, .t_i64], [.t_Queue, .t_i64], [[some 3, none], [none]], r18_Join N⟩ :=
  den_of (N := N) (gam := [(141, ⟨[.t_Queue], [.t_Queue], [[some 3, none]], r18_own N⟩)]) (txt := []) (hints := [(105, [([0, 0, 1], ⟨[1, 2, 4], [], [(.nrm, [.reg 12 .t_bool [none]])], []⟩)])]) mixed (.cons (d_r18_own N) .nil) .nil Tryz.func105 (by kernel_rfl) (by kernel_rfl)

def r18_Single (N : Nat) (x0 : Queue) (x1 : Int) : Option (Queue × Int) :=
 
  (bif decide (x1 < (1 : Int)) then some true else some (decide (x1 > (1000 : Int)))).bind fun (r2 : Bool) =>
    bif r2 then some (z_Queue, (2 : Int))
    else
      bif decide (IntKind.i64.wrap (x0.Singles + x1) > (10000 : Int)) then some (z_Queue, (9 : Int))
      else
        (r18_own N x0).bind fun (r3 : Queue) =>
          some (Queue.mk r3.Groups (IntKind.i64.wrap (r3.Singles + x1)), (0 : Int))
theorem d_r18_Single (N : Nat) : DenF Tryz.prog 106 ⟨[.t_Queue, .t_i64], [.t_Queue, .t_i64], [[some 3, none], [none]], r18_Single N⟩ :=
  den_of (N := N) (gam := [(141, ⟨[.t_Queue], [.t_Queue], [[some 3, none]], r18_own N⟩)]) (txt := []) (hints := [(106, [([0, 0, 1], ⟨[1, 2, 4], [], [(.nrm, [.reg 12 .t_bool [none]])], []⟩)])]) mixed (.cons (d_r18_own N) .nil) .nil Tryz.func106 (by kernel_rfl) (by kernel_rfl)

def r17_Take (N : Nat) (x0 : Line) (x1 x2 : Int) : Option (Line × Int) :=
 
  (r17_At N x0 x1).bind fun (r3 : Int) =>
    bif decide (r3 < (0 : Int)) then some (z_Line, (8 : Int))
    else
      (bif decide (x2 < (0 : Int)) then some true
          else
            bif decide ((0 : Int) ≤ x1) && decide (x1 < (↑x0.Load.length : Int)) then
              some (decide (x2 > x0.Load.getD x1.toNat (0 : Int)))
            else none).bind
        fun (r4 : Bool) =>
        bif r4 then some (z_Line, (2 : Int))
        else
          bif decide ((0 : Int) ≤ x1) && decide (x1 < (↑x0.Load.length : Int)) then
            (r17_set N x0 x1 (IntKind.i64.wrap (x0.Load.getD x1.toNat (0 : Int) - x2))).bind fun (r5 : Line) =>
              some (r5, (0 : Int))
          else none
theorem d_r17_Take (N : Nat) : DenF Tryz.prog 107 ⟨[.t_Line, .t_i64, .t_i64], [.t_Line, .t_i64], [[none, none, none, none], [none]], r17_Take N⟩ :=
  den_of (N := N) (gam := [(76, ⟨[.t_Line, .t_i64], [.t_i64], [[none]], r17_At N⟩), (142, ⟨[.t_Line, .t_i64, .t_i64], [.t_Line], [[none, none, none, none]], r17_set N⟩)]) (txt := []) (hints := [(107, [([0, 0, 1, 1], ⟨[1, 2, 3, 6], [], [(.nrm, [.reg 23 .t_bool [none]])], []⟩)])]) mixed (.cons (d_r17_At N) (.cons (d_r17_set N) .nil)) .nil Tryz.func107 (by kernel_rfl) (by kernel_rfl)

def r20_other (N : Nat) (x0 : LiftState) (x1 : LiftEvent) : Option (LiftState × Int) :=
 
  (bif x1.Kind == (13 : Int) then
        bif x0.Drive.State != (0 : Int) then some (Sum.inr ((10 : Int), x0, x0))
        else
          (r15_Test N x0.Brakes x1.N x1.M x0.Time).bind fun (r2 : List Brake × Int) =>
            some
              (Sum.inl
                (r2.snd, z_LiftState,
                  LiftState.mk x0.Lift x0.Motor x0.Drive r2.fst x0.Chain x0.Wind x0.Line x0.Queue x0.Checks x0.Time
                    x0.Mode x0.Up x0.Off))
      else
        (bif x1.Kind == (14 : Int) then
              (r12_Update N x0.Wind x1.N x0.Time).bind fun (r3 : Alarm × Int) =>
                some
                  (Sum.inl
                    (r3.snd,
                      LiftState.mk x0.Lift x0.Motor x0.Drive x0.Brakes x0.Chain r3.fst x0.Line x0.Queue x0.Checks
                        x0.Time x0.Mode x0.Up x0.Off,
                      z_LiftState))
            else
              (bif x1.Kind == (15 : Int) then
                    (r19_Sign N x0.Checks x1.N x1.By x0.Time).bind fun (r4 : Checklist × Int) =>
                      some
                        (Sum.inl
                          (r4.snd,
                            LiftState.mk x0.Lift x0.Motor x0.Drive x0.Brakes x0.Chain x0.Wind x0.Line x0.Queue r4.fst
                              x0.Time x0.Mode x0.Up x0.Off,
                            z_LiftState))
                  else
                    (bif x1.Kind == (16 : Int) then
                          bif x0.Mode != (1 : Int) then some (Sum.inr ((10 : Int), x0, x0))
                          else
                            (bif decide (x1.M < (0 : Int)) then some true else some (decide (x1.M > (1 : Int)))).bind
                              fun (r5 : Bool) =>
                              bif r5 then some (Sum.inr ((2 : Int), x0, x0))
                              else
                                (bif x1.M == (0 : Int) then
                                      (r18_Join N x0.Queue x1.N).bind fun (r6 : Queue × Int) =>
                                        some
                                          (r6.snd,
                                            LiftState.mk x0.Lift x0.Motor x0.Drive x0.Brakes x0.Chain x0.Wind x0.Line
                                              r6.fst x0.Checks x0.Time x0.Mode x0.Up x0.Off)
                                    else
                                      (r18_Single N x0.Queue x1.N).bind fun (r7 : Queue × Int) =>
                                        some
                                          (r7.snd,
                                            LiftState.mk x0.Lift x0.Motor x0.Drive x0.Brakes x0.Chain x0.Wind x0.Line
                                              r7.fst x0.Checks x0.Time x0.Mode x0.Up x0.Off)).bind
                                  fun (r8 : Int × LiftState) => some (Sum.inl (r8.fst, z_LiftState, r8.snd))
                        else
                          (bif x1.Kind == (18 : Int) then
                                bif x0.Mode != (2 : Int) then some (Sum.inr ((10 : Int), x0, x0))
                                else
                                  bif x0.Drive.Speed != (0 : Int) then some (Sum.inr ((13 : Int), x0, x0))
                                  else
                                    (r17_Take N x0.Line x1.M x1.N).bind fun (r9 : Line × Int) =>
                                      (bif r9.snd == (0 : Int) then
                                            (bif
                                                    decide
                                                      (IntKind.i64.wrap (x0.Off + x1.N) > (1125899906842624 : Int)) then
                                                  some (12 : Int)
                                                else some r9.snd).bind
                                              fun (r10 : Int) =>
                                              some
                                                (r10,
                                                  LiftState.mk x0.Lift x0.Motor x0.Drive x0.Brakes x0.Chain x0.Wind
                                                    r9.fst x0.Queue x0.Checks x0.Time x0.Mode x0.Up
                                                    (IntKind.i64.wrap (x0.Off + x1.N)))
                                          else
                                            some
                                              (r9.snd,
                                                LiftState.mk x0.Lift x0.Motor x0.Drive x0.Brakes x0.Chain x0.Wind r9.fst
                                                  x0.Queue x0.Checks x0.Time x0.Mode x0.Up x0.Off)).bind
                                        fun (r11 : Int × LiftState) => some (Sum.inl (r11.fst, z_LiftState, r11.snd))
                              else some (Sum.inl ((0 : Int), z_LiftState, x0))).bind
                            fun (r12 : Int × LiftState × LiftState ⊕ Int × LiftState × LiftState) =>
                            Sum.elim (fun (p13 : Int × LiftState × LiftState) => some (Sum.inl p13))
                              (fun (p14 : Int × LiftState × LiftState) => some (Sum.inr p14)) r12).bind
                      fun (r15 : Int × LiftState × LiftState ⊕ Int × LiftState × LiftState) =>
                      Sum.elim
                        (fun (p16 : Int × LiftState × LiftState) => some (Sum.inl (p16.fst, p16.snd.snd, p16.snd.fst)))
                        (fun (p17 : Int × LiftState × LiftState) => some (Sum.inr (p17.fst, p17.snd.snd, p17.snd.fst)))
                        r15).bind
                fun (r18 : Int × LiftState × LiftState ⊕ Int × LiftState × LiftState) =>
                Sum.elim (fun (p19 : Int × LiftState × LiftState) => some (Sum.inl p19))
                  (fun (p20 : Int × LiftState × LiftState) => some (Sum.inr p20)) r18).bind
          fun (r21 : Int × LiftState × LiftState ⊕ Int × LiftState × LiftState) =>
          Sum.elim (fun (p22 : Int × LiftState × LiftState) => some (Sum.inl (p22.fst, p22.snd.snd, p22.snd.fst)))
            (fun (p23 : Int × LiftState × LiftState) => some (Sum.inr (p23.fst, p23.snd.snd, p23.snd.fst))) r21).bind
    fun (r24 : Int × LiftState × LiftState ⊕ Int × LiftState × LiftState) =>
    Sum.elim (fun (p25 : Int × LiftState × LiftState) => some (p25.snd.snd, p25.fst))
      (fun (p26 : Int × LiftState × LiftState) => some (p26.snd.fst, p26.fst)) r24
theorem d_r20_other (N : Nat) : DenF Tryz.prog 58 ⟨[.t_LiftState, .t_LiftEvent], [.t_LiftState, .t_i64], [[none, none, none, none, none, none, none, none, none, none, none, none, none, none, none, none, none, none, none, none, none, none, none, none, none, none, none, none, none, none, none, none, none, none, none, none, none], [none]], r20_other N⟩ :=
  den_of (N := N) (gam := [(103, ⟨[.l_Brake, .t_i64, .t_i64, .t_i64], [.l_Brake, .t_i64], [[some 89], [none]], r15_Test N⟩), (61, ⟨[.t_Alarm, .t_i64, .t_i64], [.t_Alarm, .t_i64], [[none, none, none, none, none], [none]], r12_Update N⟩), (104, ⟨[.t_Checklist, .t_i64, .t_i64, .t_i64], [.t_Checklist, .t_i64], [[some 3, none, some 97], [none]], r19_Sign N⟩), (105, ⟨[.t_Queue, .t_i64], [.t_Queue, .t_i64], [[some 3, none], [none]], r18_Join N⟩), (106, ⟨[.t_Queue, .t_i64], [.t_Queue, .t_i64], [[some 3, none], [none]], r18_Single N⟩), (107, ⟨[.t_Line, .t_i64, .t_i64], [.t_Line, .t_i64], [[none, none, none, none], [none]], r17_Take N⟩)]) (txt := []) (hints := [(58, [([1, 0, 1, 0, 1, 1], ⟨[2, 4], [], [(.nrm, [.reg 6 .t_i64 [none], .var 4 .t_LiftState [none, none, none, none, none, none, none, none, none, none, none, none, none, none, none, none, none, none, none, none, none, none, none, none, none, none, none, none, none, none, none, none, none, none, none, none, none], .var 2 .t_LiftState [none, none, none, none, none, none, none, none, none, none, none, none, none, none, none, none, none, none, none, none, none, none, none, none, none, none, none, none, none, none, none, none, none, none, none, none, none]]), (.ret, [.reg 5 .t_i64 [none], .var 4 .t_LiftState [none, none, none, none, none, none, none, none, none, none, none, none, none, none, none, none, none, none, none, none, none, none, none, none, none, none, none, none, none, none, none, none, none, none, none, none, none], .var 2 .t_LiftState [none, none, none, none, none, none, none, none, none, none, none, none, none, none, none, none, none, none, none, none, none, none, none, none, none, none, none, none, none, none, none, none, none, none, none, none, none]])], []⟩), ([1, 1, 1, 0, 1, 0, 1, 1], ⟨[2, 4], [], [(.nrm, [.reg 6 .t_i64 [none], .var 2 .t_LiftState [none, none, none, none, none, none, none, none, none, none, none, none, none, none, none, none, none, none, none, none, none, none, none, none, none, none, none, none, none, none, none, none, none, none, none, none, none], .var 4 .t_LiftState [none, none, none, none, none, none, none, none, none, none, none, none, none, none, none, none, none, none, none, none, none, none, none, none, none, none, none, none, none, none, none, none, none, none, none, none, none]]), (.ret, [.reg 5 .t_i64 [none], .var 2 .t_LiftState [none, none, none, none, none, none, none, none, none, none, none, none, none, none, none, none, none, none, none, none, none, none, none, none, none, none, none, none, none, none, none, none, none, none, none, none, none], .var 4 .t_LiftState [none, none, none, none, none, none, none, none, none, none, none, none, none, none, none, none, none, none, none, none, none, none, none, none, none, none, none, none, none, none, none, none, none, none, none, none, none]])], []⟩), ([1, 1, 1, 1, 1, 0, 1, 0, 1, 1], ⟨[2, 4], [], [(.nrm, [.reg 6 .t_i64 [none], .var 2 .t_LiftState [none, none, none, none, none, none, none, none, none, none, none, none, none, none, none, none, none, none, none, none, none, none, none, none, none, none, none, none, none, none, none, none, none, none, none, none, none], .var 4 .t_LiftState [none, none, none, none, none, none, none, none, none, none, none, none, none, none, none, none, none, none, none, none, none, none, none, none, none, none, none, none, none, none, none, none, none, none, none, none, none]]), (.ret, [.reg 5 .t_i64 [none], .var 2 .t_LiftState [none, none, none, none, none, none, none, none, none, none, none, none, none, none, none, none, none, none, none, none, none, none, none, none, none, none, none, none, none, none, none, none, none, none, none, none, none], .var 4 .t_LiftState [none, none, none, none, none, none, none, none, none, none, none, none, none, none, none, none, none, none, none, none, none, none, none, none, none, none, none, none, none, none, none, none, none, none, none, none, none]])], []⟩), ([1, 1, 1, 1, 1, 1, 1, 0, 1, 0, 1, 1], ⟨[2, 4], [], [(.nrm, [.reg 6 .t_i64 [none], .var 4 .t_LiftState [none, none, none, none, none, none, none, none, none, none, none, none, none, none, none, none, none, none, none, none, none, none, none, none, none, none, none, none, none, none, none, none, none, none, none, none, none], .var 2 .t_LiftState [none, none, none, none, none, none, none, none, none, none, none, none, none, none, none, none, none, none, none, none, none, none, none, none, none, none, none, none, none, none, none, none, none, none, none, none, none]]), (.ret, [.reg 5 .t_i64 [none], .var 4 .t_LiftState [none, none, none, none, none, none, none, none, none, none, none, none, none, none, none, none, none, none, none, none, none, none, none, none, none, none, none, none, none, none, none, none, none, none, none, none, none], .var 2 .t_LiftState [none, none, none, none, none, none, none, none, none, none, none, none, none, none, none, none, none, none, none, none, none, none, none, none, none, none, none, none, none, none, none, none, none, none, none, none, none]])], []⟩), ([0, 0, 1, 0, 1, 1, 1, 1, 1, 1, 1, 0, 1, 0, 1, 1], ⟨[2, 3, 4], [], [(.nrm, [.reg 70 .t_bool [none]])], []⟩), ([1, 1, 1, 0, 1, 1, 1, 1, 1, 1, 1, 0, 1, 0, 1, 1], ⟨[2, 4], [], [(.nrm, [.reg 6 .t_i64 [none], .var 2 .t_LiftState [none, none, none, none, none, none, none, none, none, none, none, none, none, none, none, none, none, none, none, none, none, none, none, none, none, none, none, none, none, none, none, none, none, none, none, none, none]])], []⟩), ([1, 1, 1, 1, 1, 1, 1, 1, 1, 0, 1, 0, 1, 1], ⟨[2, 4], [], [(.nrm, [.reg 6 .t_i64 [none], .var 4 .t_LiftState [none, none, none, none, none, none, none, none, none, none, none, none, none, none, none, none, none, none, none, none, none, none, none, none, none, none, none, none, none, none, none, none, none, none, none, none, none], .var 2 .t_LiftState [none, none, none, none, none, none, none, none, none, none, none, none, none, none, none, none, none, none, none, none, none, none, none, none, none, none, none, none, none, none, none, none, none, none, none, none, none]]), (.ret, [.reg 5 .t_i64 [none], .var 4 .t_LiftState [none, none, none, none, none, none, none, none, none, none, none, none, none, none, none, none, none, none, none, none, none, none, none, none, none, none, none, none, none, none, none, none, none, none, none, none, none], .var 2 .t_LiftState [none, none, none, none, none, none, none, none, none, none, none, none, none, none, none, none, none, none, none, none, none, none, none, none, none, none, none, none, none, none, none, none, none, none, none, none, none]])], []⟩), ([1, 1, 1, 1, 0, 1, 1, 1, 1, 1, 1, 1, 1, 1, 0, 1, 0, 1, 1], ⟨[2, 4], [], [(.nrm, [.reg 6 .t_i64 [none], .var 2 .t_LiftState [none, none, none, none, none, none, none, none, none, none, none, none, none, none, none, none, none, none, none, none, none, none, none, none, none, none, none, none, none, none, none, none, none, none, none, none, none]])], []⟩), ([1, 1, 0, 1, 1, 1, 1, 0, 1, 1, 1, 1, 1, 1, 1, 1, 1, 0, 1, 0, 1, 1], ⟨[2, 4], [], [(.nrm, [.reg 6 .t_i64 [none]])], []⟩)])]) mixed (.cons (d_r15_Test N) (.cons (d_r12_Update N) (.cons (d_r19_Sign N) (.cons (d_r18_Join N) (.cons (d_r18_Single N) (.cons (d_r17_Take N) .nil)))))) .nil Tryz.func58 (by kernel_rfl) (by kernel_rfl)

def r20_Do (N : Nat) (x0 : LiftState) (x1 : LiftEvent) : Option (LiftState × Int) :=
 
  (r20_Right N x0).bind fun (r2 : Bool) =>
    bif !r2 then some (z_LiftState, (1 : Int))
    else
      (bif x1.Kind == (2 : Int) then some (x1.Kind == (2 : Int))
          else
            (bif x1.Kind == (3 : Int) then some (x1.Kind == (3 : Int))
                else
                  (bif x1.Kind == (17 : Int) then some (x1.Kind == (17 : Int)) else some (x1.Kind == (19 : Int))).bind
                    fun (r3 : Bool) => some r3).bind
              fun (r4 : Bool) => some r4).bind
        fun (r5 : Bool) =>
        (bif r5 then (r20_mode N x0 x1).bind fun (r6 : LiftState × Int) => some (r6.snd, r6.fst)
            else
              (bif x1.Kind == (1 : Int) then some (x1.Kind == (1 : Int))
                  else
                    (bif x1.Kind == (4 : Int) then some (x1.Kind == (4 : Int))
                        else
                          (bif x1.Kind == (5 : Int) then some (x1.Kind == (5 : Int))
                              else
                                (bif x1.Kind == (6 : Int) then some (x1.Kind == (6 : Int))
                                    else some (x1.Kind == (7 : Int))).bind
                                  fun (r7 : Bool) => some r7).bind
                            fun (r8 : Bool) => some r8).bind
                      fun (r9 : Bool) => some r9).bind
                fun (r10 : Bool) =>
                (bif r10 then (r20_move N x0 x1).bind fun (r11 : LiftState × Int) => some (r11.snd, r11.fst)
                    else
                      (bif x1.Kind == (8 : Int) then some (x1.Kind == (8 : Int))
                          else
                            (bif x1.Kind == (9 : Int) then some (x1.Kind == (9 : Int))
                                else
                                  (bif x1.Kind == (10 : Int) then some (x1.Kind == (10 : Int))
                                      else
                                        (bif x1.Kind == (11 : Int) then some (x1.Kind == (11 : Int))
                                            else some (x1.Kind == (12 : Int))).bind
                                          fun (r12 : Bool) => some r12).bind
                                    fun (r13 : Bool) => some r13).bind
                              fun (r14 : Bool) => some r14).bind
                        fun (r15 : Bool) =>
                        (bif r15 then (r20_contact N x0 x1).bind fun (r16 : LiftState × Int) => some (r16.snd, r16.fst)
                            else
                              (bif x1.Kind == (13 : Int) then some (x1.Kind == (13 : Int))
                                  else
                                    (bif x1.Kind == (14 : Int) then some (x1.Kind == (14 : Int))
                                        else
                                          (bif x1.Kind == (15 : Int) then some (x1.Kind == (15 : Int))
                                              else
                                                (bif x1.Kind == (16 : Int) then some (x1.Kind == (16 : Int))
                                                    else some (x1.Kind == (18 : Int))).bind
                                                  fun (r17 : Bool) => some r17).bind
                                            fun (r18 : Bool) => some r18).bind
                                      fun (r19 : Bool) => some r19).bind
                                fun (r20 : Bool) =>
                                (bif r20 then
                                      (r20_other N x0 x1).bind fun (r21 : LiftState × Int) => some (r21.snd, r21.fst)
                                    else some ((18 : Int), x0)).bind
                                  fun (r22 : Int × LiftState) => some r22).bind
                          fun (r23 : Int × LiftState) => some r23).bind
                  fun (r24 : Int × LiftState) => some r24).bind
          fun (r25 : Int × LiftState) =>
          bif r25.fst != (0 : Int) then some (z_LiftState, r25.fst)
          else (r20_guard N r25.snd).bind fun (r26 : LiftState) => some (r26, (0 : Int))
theorem d_r20_Do (N : Nat) : DenF Tryz.prog 21 ⟨[.t_LiftState, .t_LiftEvent], [.t_LiftState, .t_i64], [[none, none, none, none, none, none, none, none, none, none, none, none, none, none, none, none, none, none, none, none, none, none, none, none, none, none, none, none, none, none, none, none, none, none, none, none, none], [none]], r20_Do N⟩ :=
  den_of (N := N) (gam := [(13, ⟨[.t_LiftState], [.t_bool], [[none]], r20_Right N⟩), (55, ⟨[.t_LiftState, .t_LiftEvent], [.t_LiftState, .t_i64], [[none, none, none, none, none, none, none, none, none, none, none, none, none, none, none, none, none, none, none, none, none, none, none, none, none, none, none, none, none, none, none, none, none, none, none, none, none], [none]], r20_mode N⟩), (56, ⟨[.t_LiftState, .t_LiftEvent], [.t_LiftState, .t_i64], [[none, none, none, none, none, none, none, none, none, none, none, none, none, none, none, none, none, none, none, none, none, none, none, none, none, none, none, none, none, none, none, none, none, none, none, none, none], [none]], r20_move N⟩), (57, ⟨[.t_LiftState, .t_LiftEvent], [.t_LiftState, .t_i64], [[none, none, none, none, none, none, none, none, none, none, none, none, none, none, none, none, none, none, none, none, none, none, none, none, none, none, none, none, none, none, none, none, none, none, none, none, none], [none]], r20_contact N⟩), (58, ⟨[.t_LiftState, .t_LiftEvent], [.t_LiftState, .t_i64], [[none, none, none, none, none, none, none, none, none, none, none, none, none, none, none, none, none, none, none, none, none, none, none, none, none, none, none, none, none, none, none, none, none, none, none, none, none], [none]], r20_other N⟩), (59, ⟨[.t_LiftState], [.t_LiftState], [[none, none, none, none, none, none, none, none, none, none, none, none, none, none, none, none, none, none, none, none, none, none, none, none, none, none, none, none, none, none, none, none, none, none, none, none, none]], r20_guard N⟩)]) (txt := []) (hints := [(21, [([1, 0, 0, 1, 0, 1, 1, 1], ⟨[2, 3, 4, 12], [], [(.nrm, [.reg 13 .t_bool [none]])], []⟩), ([1, 1, 1, 0, 0, 1, 0, 1, 1, 1], ⟨[2, 3, 4, 12], [], [(.nrm, [.reg 13 .t_bool [none]])], []⟩), ([1, 1, 1, 1, 1, 0, 0, 1, 0, 1, 1, 1], ⟨[2, 3, 4, 12], [], [(.nrm, [.reg 13 .t_bool [none]])], []⟩), ([1, 0, 1, 0, 1, 1, 1], ⟨[2, 4], [], [(.nrm, [.reg 6 .t_i64 [none], .var 2 .t_LiftState [none, none, none, none, none, none, none, none, none, none, none, none, none, none, none, none, none, none, none, none, none, none, none, none, none, none, none, none, none, none, none, none, none, none, none, none, none]])], []⟩), ([1, 0, 1, 1, 0, 1, 0, 1, 1, 1], ⟨[2, 3, 4, 12], [], [(.nrm, [.reg 24 .t_bool [none]])], []⟩), ([1, 1, 1, 0, 1, 1, 0, 1, 0, 1, 1, 1], ⟨[2, 3, 4, 12], [], [(.nrm, [.reg 24 .t_bool [none]])], []⟩), ([1, 1, 1, 1, 1, 0, 1, 1, 0, 1, 0, 1, 1, 1], ⟨[2, 3, 4, 12], [], [(.nrm, [.reg 24 .t_bool [none]])], []⟩), ([1, 1, 1, 1, 1, 1, 1, 0, 1, 1, 0, 1, 0, 1, 1, 1], ⟨[2, 3, 4, 12], [], [(.nrm, [.reg 24 .t_bool [none]])], []⟩), ([1, 1, 1, 0, 1, 0, 1, 1, 1], ⟨[2, 4], [], [(.nrm, [.reg 6 .t_i64 [none], .var 2 .t_LiftState [none, none, none, none, none, none, none, none, none, none, none, none, none, none, none, none, none, none, none, none, none, none, none, none, none, none, none, none, none, none, none, none, none, none, none, none, none]])], []⟩), ([1, 0, 1, 1, 1, 1, 0, 1, 0, 1, 1, 1], ⟨[2, 3, 4, 12], [], [(.nrm, [.reg 36 .t_bool [none]])], []⟩), ([1, 1, 1, 0, 1, 1, 1, 1, 0, 1, 0, 1, 1, 1], ⟨[2, 3, 4, 12], [], [(.nrm, [.reg 36 .t_bool [none]])], []⟩), ([1, 1, 1, 1, 1, 0, 1, 1, 1, 1, 0, 1, 0, 1, 1, 1], ⟨[2, 3, 4, 12], [], [(.nrm, [.reg 36 .t_bool [none]])], []⟩), ([1, 1, 1, 1, 1, 1, 1, 0, 1, 1, 1, 1, 0, 1, 0, 1, 1, 1], ⟨[2, 3, 4, 12], [], [(.nrm, [.reg 36 .t_bool [none]])], []⟩), ([1, 1, 1, 1, 1, 0, 1, 0, 1, 1, 1], ⟨[2, 4], [], [(.nrm, [.reg 6 .t_i64 [none], .var 2 .t_LiftState [none, none, none, none, none, none, none, none, none, none, none, none, none, none, none, none, none, none, none, none, none, none, none, none, none, none, none, none, none, none, none, none, none, none, none, none, none]])], []⟩), ([1, 0, 1, 1, 1, 1, 1, 1, 0, 1, 0, 1, 1, 1], ⟨[2, 3, 4], [], [(.nrm, [.reg 48 .t_bool [none]])], []⟩), ([1, 1, 1, 0, 1, 1, 1, 1, 1, 1, 0, 1, 0, 1, 1, 1], ⟨[2, 3, 4], [], [(.nrm, [.reg 48 .t_bool [none]])], []⟩), ([1, 1, 1, 1, 1, 0, 1, 1, 1, 1, 1, 1, 0, 1, 0, 1, 1, 1], ⟨[2, 3, 4], [], [(.nrm, [.reg 48 .t_bool [none]])], []⟩), ([1, 1, 1, 1, 1, 1, 1, 0, 1, 1, 1, 1, 1, 1, 0, 1, 0, 1, 1, 1], ⟨[2, 3, 4], [], [(.nrm, [.reg 48 .t_bool [none]])], []⟩), ([1, 1, 1, 1, 1, 1, 1, 0, 1, 0, 1, 1, 1], ⟨[2, 4], [], [(.nrm, [.reg 6 .t_i64 [none], .var 2 .t_LiftState [none, none, none, none, none, none, none, none, none, none, none, none, none, none, none, none, none, none, none, none, none, none, none, none, none, none, none, none, none, none, none, none, none, none, none, none, none]])], []⟩)])]) mixed (.cons (d_r20_Right N) (.cons (d_r20_mode N) (.cons (d_r20_move N) (.cons (d_r20_contact N) (.cons (d_r20_other N) (.cons (d_r20_guard N) .nil)))))) .nil Tryz.func21 (by kernel_rfl) (by kernel_rfl)

def l20_LiftStates (N : Nat) (x0 : LiftState) (x1 : LiftEvent) : Option Bool :=
 
  (l20_alive N).bind fun (r2 : Bool) =>
    bif !r2 then some false
    else
      (l20_compact N x0).bind fun (r3 : Bool) =>
        bif !r3 then some true
        else
          ((lift_Right N x0).bind fun (r4 : Bool) =>
                (r20_Right N x0).bind fun (r5 : Bool) =>
                  bif !r4 == r5 then some true
                  else
                    (lift_Safe N x0).bind fun (r6 : Bool) =>
                      (r20_Safe N x0).bind fun (r7 : Bool) => some !r6 == r7).bind
            fun (r8 : Bool) =>
            bif r8 then some false
            else
              ((r20_Right N x0).bind fun (r9 : Bool) =>
                    bif r9 then
                      (lift_Load N x0).bind fun (r10 : Int) =>
                        (r20_Load N x0).bind fun (r11 : Int) =>
                          bif r10 != r11 then some true
                          else
                            (lift_May N x0).bind fun (r12 : Int) =>
                              (r20_May N x0).bind fun (r13 : Int) => some (r12 != r13)
                    else some false).bind
                fun (r14 : Bool) =>
                bif r14 then some false
                else
                  (lift_Do N x0 x1).bind fun (r15 : LiftState × Int) =>
                    (r20_Do N x0 x1).bind fun (r16 : LiftState × Int) =>
                      (bif r15.snd == r16.snd then (r20_Same N r15.fst r16.fst).bind fun (r17 : Bool) => some r17
                          else some false).bind
                        fun (r18 : Bool) => some r18
theorem d_l20_LiftStates (N : Nat) : DenF Tryz.prog 4 ⟨[.t_LiftState, .t_LiftEvent], [.t_bool], [[none]], l20_LiftStates N⟩ :=
  den_of (N := N) (gam := [(6, ⟨[], [.t_bool], [[none]], l20_alive N⟩), (12, ⟨[.t_LiftState], [.t_bool], [[none]], l20_compact N⟩), (11, ⟨[.t_LiftState], [.t_bool], [[none]], lift_Right N⟩), (13, ⟨[.t_LiftState], [.t_bool], [[none]], r20_Right N⟩), (14, ⟨[.t_LiftState], [.t_bool], [[none]], lift_Safe N⟩), (15, ⟨[.t_LiftState], [.t_bool], [[none]], r20_Safe N⟩), (16, ⟨[.t_LiftState], [.t_i64], [[none]], lift_Load N⟩), (17, ⟨[.t_LiftState], [.t_i64], [[none]], r20_Load N⟩), (18, ⟨[.t_LiftState], [.t_i64], [[none]], lift_May N⟩), (19, ⟨[.t_LiftState], [.t_i64], [[none]], r20_May N⟩), (20, ⟨[.t_LiftState, .t_LiftEvent], [.t_LiftState, .t_i64], [[none, none, none, none, none, none, none, none, none, none, none, none, none, none, none, none, none, none, none, none, none, none, none, none, none, none, none, none, none, none, none, none, none, none, none, none, none], [none]], lift_Do N⟩), (21, ⟨[.t_LiftState, .t_LiftEvent], [.t_LiftState, .t_i64], [[none, none, none, none, none, none, none, none, none, none, none, none, none, none, none, none, none, none, none, none, none, none, none, none, none, none, none, none, none, none, none, none, none, none, none, none, none], [none]], r20_Do N⟩), (10, ⟨[.t_LiftState, .t_LiftState], [.t_bool], [[none]], r20_Same N⟩)]) (txt := []) (hints := [(4, [([0, 0, 1, 1, 1], ⟨[2, 3], [], [(.nrm, [.reg 25 .t_bool [none]])], []⟩), ([0, 0, 1, 1, 1, 1], ⟨[2, 3], [], [(.nrm, [.reg 41 .t_bool [none]])], []⟩), ([0, 1, 1, 1, 1, 1, 1, 1], ⟨[], [], [(.nrm, [.reg 4 .t_bool [none]])], []⟩)])]) mixed (.cons (d_l20_alive N) (.cons (d_l20_compact N) (.cons (d_lift_Right N) (.cons (d_r20_Right N) (.cons (d_lift_Safe N) (.cons (d_r20_Safe N) (.cons (d_lift_Load N) (.cons (d_r20_Load N) (.cons (d_lift_May N) (.cons (d_r20_May N) (.cons (d_lift_Do N) (.cons (d_r20_Do N) (.cons (d_r20_Same N) .nil))))))))))))) .nil Tryz.func4 (by kernel_rfl) (by kernel_rfl)

def l20_LiftDoes (N : Nat) (x0 : Make) (x1 : List LiftEvent) : Option Bool :=
 
  (l20_alive N).bind fun (r2 : Bool) =>
    bif !r2 then some false
    else
      (r20_New N x0.Lift x0.Motor x0.Brakes x0.Chain x0.Wind x0.Checks).bind fun (r3 : LiftState × Int) =>
        ((l20_small N x0).bind fun (r4 : Bool) =>
              bif !r4 then some true
              else bif decide ((↑x1.length : Int) > (60 : Int)) then some true else some (r3.snd != (0 : Int))).bind
          fun (r5 : Bool) =>
          bif r5 then some true
          else
            (whileF N
                  (fun (p6 : Int × LiftState) =>
                    bif decide (p6.fst < (↑x1.length : Int)) then
                      bif decide ((0 : Int) ≤ p6.fst) && decide (p6.fst < (↑x1.length : Int)) then
                        (lift_Do N p6.snd (x1.getD (Int.toNat p6.fst) z_LiftEvent)).bind fun (r7 : LiftState × Int) =>
                          bif decide ((0 : Int) ≤ p6.fst) && decide (p6.fst < (↑x1.length : Int)) then
                            (r20_Do N p6.snd (x1.getD (Int.toNat p6.fst) z_LiftEvent)).bind
                              fun (r8 : LiftState × Int) =>
                              (bif r7.snd != r8.snd then some true
                                  else (r20_Same N r7.fst r8.fst).bind fun (r9 : Bool) => some !r9).bind
                                fun (r10 : Bool) =>
                                bif r10 then some (Sum.inr (Sum.inr (false, p6.snd)))
                                else
                                  (bif r8.snd == (0 : Int) then some r8.fst else some p6.snd).bind
                                    fun (r11 : LiftState) => some (Sum.inl (IntKind.i64.wrap (p6.fst + (1 : Int)), r11))
                          else none
                      else none
                    else some (Sum.inr (Sum.inl p6.snd)))
                  ((0 : Int), r3.fst)).bind
              fun (r12 : LiftState ⊕ Bool × LiftState) =>
              Sum.elim (fun (p13 : LiftState) => some true) (fun (p14 : Bool × LiftState) => some p14.fst) r12
theorem d_l20_LiftDoes (N : Nat) : DenF Tryz.prog 5 ⟨[.t_Make, .l_LiftEvent], [.t_bool], [[none]], l20_LiftDoes N⟩ :=
  den_of (N := N) (gam := [(6, ⟨[], [.t_bool], [[none]], l20_alive N⟩), (9, ⟨[.t_Lift, .t_Motor, .l_Brake, .t_Chain, .t_Alarm, .t_Checklist], [.t_LiftState, .t_i64], [[none, none, none, none, none, none, none, none, none, none, none, none, none, none, none, none, none, none, none, none, none, none, none, none, none, none, none, none, none, none, none, none, none, none, none, none, none], [none]], r20_New N⟩), (7, ⟨[.t_Make], [.t_bool], [[none]], l20_small N⟩), (20, ⟨[.t_LiftState, .t_LiftEvent], [.t_LiftState, .t_i64], [[none, none, none, none, none, none, none, none, none, none, none, none, none, none, none, none, none, none, none, none, none, none, none, none, none, none, none, none, none, none, none, none, none, none, none, none, none], [none]], lift_Do N⟩), (21, ⟨[.t_LiftState, .t_LiftEvent], [.t_LiftState, .t_i64], [[none, none, none, none, none, none, none, none, none, none, none, none, none, none, none, none, none, none, none, none, none, none, none, none, none, none, none, none, none, none, none, none, none, none, none, none, none], [none]], r20_Do N⟩), (10, ⟨[.t_LiftState, .t_LiftState], [.t_bool], [[none]], r20_Same N⟩)]) (txt := []) (hints := [(5, [([0, 0, 1, 1, 1], ⟨[1, 5], [], [(.nrm, [.reg 41 .t_bool [none]])], []⟩), ([0, 1, 0, 1, 1, 1, 1], ⟨[1, 5], [.reg 7 .t_i64 [none], .var 5 .t_LiftState [none, none, none, none, none, none, none, none, none, none, none, none, none, none, none, none, none, none, none, none, none, none, none, none, none, none, none, none, none, none, none, none, none, none, none, none, none]], [(.ex 0, [.var 5 .t_LiftState [none, none, none, none, none, none, none, none, none, none, none, none, none, none, none, none, none, none, none, none, none, none, none, none, none, none, none, none, none, none, none, none, none, none, none, none, none]]), (.ret, [.reg 4 .t_bool [none], .var 5 .t_LiftState [none, none, none, none, none, none, none, none, none, none, none, none, none, none, none, none, none, none, none, none, none, none, none, none, none, none, none, none, none, none, none, none, none, none, none, none, none]])], []⟩), ([0, 0, 1, 1, 0, 0, 1, 0, 0, 1, 0, 1, 1, 1, 1], ⟨[1, 5, 7, 10, 11], [], [(.nrm, [.reg 74 .t_bool [none]])], []⟩), ([1, 1, 1, 1, 0, 0, 1, 0, 0, 1, 0, 1, 1, 1, 1], ⟨[1, 5, 7], [], [(.nrm, [.var 5 .t_LiftState [none, none, none, none, none, none, none, none, none, none, none, none, none, none, none, none, none, none, none, none, none, none, none, none, none, none, none, none, none, none, none, none, none, none, none, none, none]])], []⟩)])]) mixed (.cons (d_l20_alive N) (.cons (d_r20_New N) (.cons (d_l20_small N) (.cons (d_lift_Do N) (.cons (d_r20_Do N) (.cons (d_r20_Same N) .nil)))))) .nil Tryz.func5 (by kernel_rfl) (by kernel_rfl)
end Go.Proofs.YthjmbcnohgaihaaGreat
