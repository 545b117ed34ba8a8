/- Written by a program (gen.py, asm.py): what each function computes, as a plain function, and that its text computes it. No condition. -/
import Derived.Test.YthjmbcnohgaihaaGreatFn5
import Derived.Test.YthjmbcnohgaihaaGreatCmo
namespace Go.Proofs.YthjmbcnohgaihaaGreat
open Go.Cm Go.Proofs
set_option linter.unusedVariables false
set_option maxRecDepth 100000

def l20_small (N : Nat) (x0 : Make) : Option Bool :=
 
  (bif decide ((↑x0.Brakes.length : Int) ≤ (60 : Int)) then
        bif decide ((↑x0.Chain.Contacts.length : Int) ≤ (60 : Int)) then
          bif decide ((↑x0.Checks.Items.length : Int) ≤ (60 : Int)) then
            some (decide ((↑x0.Checks.Signs.length : Int) ≤ (60 : Int)))
          else some false
        else some false
      else some false).bind
    fun (r1 : Bool) => some r1
theorem d_l20_small (N : Nat) : DenF Tryz.prog 7 ⟨[.t_Make], [.t_bool], [[none]], l20_small N⟩ :=
  den_of (N := N) (gam := []) (txt := []) (hints := [(7, [([0, 1], ⟨[], [], [(.nrm, [.reg 2 .t_bool [none]])], []⟩)])]) mixed .nil .nil Tryz.func7 (by kernel_rfl) (by kernel_rfl)

def r17_New (N : Nat) (x0 : Lift) : Option (Line × Int) :=
 
  (bif decide (x0.Length < (10 : Int)) then some true
      else
        bif decide (x0.Length > (6000 : Int)) then some true
        else
          bif decide (x0.Spacing < (5 : Int)) then some true
          else
            bif decide (x0.Spacing > (1000 : Int)) then some true
            else
              bif x0.Spacing != (0 : Int) then
                bif (IntKind.i64.wrap ((2 : Int) * x0.Length)).tmod x0.Spacing != (0 : Int) then some true
                else
                  bif x0.Spacing != (0 : Int) then
                    some
                      (decide
                        (IntKind.i64.wrap ((IntKind.i64.wrap ((2 : Int) * x0.Length)).tdiv x0.Spacing) > (200 : Int)))
                  else none
              else none).bind
    fun (r1 : Bool) =>
    bif r1 then some (z_Line, (1 : Int))
    else
      bif x0.Spacing != (0 : Int) then
        bif
            decide ((0 : Int) ≤ IntKind.i64.wrap ((IntKind.i64.wrap ((2 : Int) * x0.Length)).tdiv x0.Spacing)) &&
              (decide
                  (IntKind.i64.wrap ((IntKind.i64.wrap ((2 : Int) * x0.Length)).tdiv x0.Spacing) ≤
                    IntKind.i64.wrap ((IntKind.i64.wrap ((2 : Int) * x0.Length)).tdiv x0.Spacing)) &&
                decide
                  (IntKind.i64.wrap ((IntKind.i64.wrap ((2 : Int) * x0.Length)).tdiv x0.Spacing) * (8 : Int) ≤
                    (140737488355328 : Int))) then
          (some
                (List.replicate (IntKind.i64.wrap ((IntKind.i64.wrap ((2 : Int) * x0.Length)).tdiv x0.Spacing)).toNat
                  (0 : Int))).bind
            fun (r2 : List Int) =>
            some
              (Line.mk (IntKind.i64.wrap ((2000 : Int) * x0.Length)) (IntKind.i64.wrap ((1000 : Int) * x0.Spacing))
                  (0 : Int) r2,
                (0 : Int))
        else none
      else none
theorem d_r17_New (N : Nat) : DenF Tryz.prog 26 ⟨[.t_Lift], [.t_Line, .t_i64], [[none, none, none, some 3], [none]], r17_New N⟩ :=
  den_of (N := N) (gam := []) (txt := []) (hints := [(26, [([0, 0, 1], ⟨[1, 2], [], [(.nrm, [.reg 39 .t_bool [none]])], []⟩)])]) mixed .nil .nil Tryz.func26 (by kernel_rfl) (by kernel_rfl)

def r12_Update (N : Nat) (x0 : Alarm) (x1 x2 : Int) : Option (Alarm × Int) :=
 
  (bif decide (x0.Off < (0 : Int)) then some true
      else
        bif decide (x0.On < x0.Off) then some true
        else
          bif decide (x0.Hold < (0 : Int)) then some true
          else
            bif decide (x0.Hold > (86400 : Int)) then some true
            else
              bif decide (x1 < (0 : Int)) then some true
              else
                bif decide (x2 < (0 : Int)) then some true
                else bif decide (x2 > (20000000 : Int)) then some true else some (decide (x0.Low > x2))).bind
    fun (r3 : Bool) =>
    bif r3 then some (x0, (2 : Int))
    else
      bif decide (x1 ≥ x0.On) then some (Alarm.mk x0.On x0.Off x0.Hold true (-1 : Int), (0 : Int))
      else
        bif decide (x1 ≥ x0.Off) then some (Alarm.mk x0.On x0.Off x0.Hold x0.Active (-1 : Int), (0 : Int))
        else
          (bif decide (x0.Low < (0 : Int)) then some (Alarm.mk x0.On x0.Off x0.Hold x0.Active x2) else some x0).bind
            fun (r4 : Alarm) =>
            (bif decide (IntKind.i64.wrap (x2 - r4.Low) ≥ r4.Hold) then
                  some (Alarm.mk r4.On r4.Off r4.Hold false r4.Low)
                else some r4).bind
              fun (r5 : Alarm) => some (r5, (0 : Int))
theorem d_r12_Update (N : Nat) : DenF Tryz.prog 61 ⟨[.t_Alarm, .t_i64, .t_i64], [.t_Alarm, .t_i64], [[none, none, none, none, none], [none]], r12_Update N⟩ :=
  den_of (N := N) (gam := []) (txt := []) (hints := [(61, [([0, 0, 1], ⟨[1, 2, 3, 6], [], [(.nrm, [.reg 45 .t_bool [none]])], []⟩), ([1, 0, 1, 1, 1, 1], ⟨[2, 3, 6], [], [(.nrm, [.var 3 .t_Alarm [none, none, none, none, none]])], []⟩), ([1, 0, 1, 1, 1, 1, 1], ⟨[3, 6], [], [(.nrm, [.var 3 .t_Alarm [none, none, none, none, none]])], []⟩)])]) mixed .nil .nil Tryz.func61 (by kernel_rfl) (by kernel_rfl)

def r14_Right (N : Nat) (x0 : Motor) : Option Bool :=
 
  (bif decide (x0.Max ≥ (500 : Int)) then
        bif decide (x0.Max ≤ (12000 : Int)) then
          bif decide (x0.Up ≥ (50 : Int)) then
            bif decide (x0.Up ≤ (2000 : Int)) then
              bif decide (x0.Down ≥ (50 : Int)) then
                bif decide (x0.Down ≤ (2000 : Int)) then
                  bif decide (x0.Stop ≥ x0.Down) then some (decide (x0.Stop ≤ (5000 : Int))) else some false
                else some false
              else some false
            else some false
          else some false
        else some false
      else some false).bind
    fun (r1 : Bool) => some r1
theorem d_r14_Right (N : Nat) : DenF Tryz.prog 62 ⟨[.t_Motor], [.t_bool], [[none]], r14_Right N⟩ :=
  den_of (N := N) (gam := []) (txt := []) (hints := [(62, [([0, 1], ⟨[], [], [(.nrm, [.reg 2 .t_bool [none]])], []⟩)])]) mixed .nil .nil Tryz.func62 (by kernel_rfl) (by kernel_rfl)

def r20_suits (N : Nat) (x0 : Lift) (x1 : Motor) (x2 : Alarm) (x3 : Int) : Option Bool :=
 
  (r12_Update N x2 (0 : Int) x3).bind fun (r4 : Alarm × Int) =>
    ((r14_Right N x1).bind fun (r5 : Bool) =>
          bif r5 then
            bif decide (x1.Max ≤ x0.Speed) then
              bif decide (x1.Max ≤ IntKind.i64.wrap ((500 : Int) * x0.Spacing)) then
                bif decide (x0.Seats ≥ (1 : Int)) then
                  bif decide (x0.Seats ≤ (16 : Int)) then some (r4.snd == (0 : Int)) else some false
                else some false
              else some false
            else some false
          else some false).bind
      fun (r6 : Bool) => some r6
theorem d_r20_suits (N : Nat) : DenF Tryz.prog 27 ⟨[.t_Lift, .t_Motor, .t_Alarm, .t_i64], [.t_bool], [[none]], r20_suits N⟩ :=
  den_of (N := N) (gam := [(61, ⟨[.t_Alarm, .t_i64, .t_i64], [.t_Alarm, .t_i64], [[none, none, none, none, none], [none]], r12_Update N⟩), (62, ⟨[.t_Motor], [.t_bool], [[none]], r14_Right N⟩)]) (txt := []) (hints := [(27, [([0, 1, 1], ⟨[], [], [(.nrm, [.reg 8 .t_bool [none]])], []⟩)])]) mixed (.cons (d_r12_Update N) (.cons (d_r14_Right N) .nil)) .nil Tryz.func27 (by kernel_rfl) (by kernel_rfl)

def r15_Right (N : Nat) (x0 : List Brake) : Option Int :=
 
  bif decide ((↑x0.length : Int) > (8 : Int)) then some (4 : Int)
  else
    (whileF N
          (fun (p1 : Int) =>
            bif decide (p1 < (↑x0.length : Int)) then
              bif decide ((0 : Int) ≤ p1) && decide (p1 < (↑x0.length : Int)) then
                (bif decide ((x0.getD p1.toNat z_Brake).ID < (1 : Int)) then some true
                    else
                      bif decide ((x0.getD p1.toNat z_Brake).ID > (9999 : Int)) then some true
                      else
                        bif (x0.getD p1.toNat z_Brake).Kind != (0 : Int) then
                          bif (x0.getD p1.toNat z_Brake).Kind != (1 : Int) then some true
                          else
                            bif decide ((x0.getD p1.toNat z_Brake).Force < (1 : Int)) then some true
                            else
                              bif decide ((x0.getD p1.toNat z_Brake).Force > (10000000 : Int)) then some true
                              else
                                bif decide ((x0.getD p1.toNat z_Brake).Tested < (-1 : Int)) then some true
                                else
                                  bif decide ((x0.getD p1.toNat z_Brake).Tested > (20000000 : Int)) then some true
                                  else
                                    bif decide ((x0.getD p1.toNat z_Brake).Measured < (0 : Int)) then some true
                                    else
                                      bif decide ((x0.getD p1.toNat z_Brake).Measured > (10000000 : Int)) then some true
                                      else
                                        bif (x0.getD p1.toNat z_Brake).Tested == (-1 : Int) then
                                          some ((x0.getD p1.toNat z_Brake).Measured != (0 : Int))
                                        else some false
                        else
                          bif decide ((x0.getD p1.toNat z_Brake).Force < (1 : Int)) then some true
                          else
                            bif decide ((x0.getD p1.toNat z_Brake).Force > (10000000 : Int)) then some true
                            else
                              bif decide ((x0.getD p1.toNat z_Brake).Tested < (-1 : Int)) then some true
                              else
                                bif decide ((x0.getD p1.toNat z_Brake).Tested > (20000000 : Int)) then some true
                                else
                                  bif decide ((x0.getD p1.toNat z_Brake).Measured < (0 : Int)) then some true
                                  else
                                    bif decide ((x0.getD p1.toNat z_Brake).Measured > (10000000 : Int)) then some true
                                    else
                                      bif (x0.getD p1.toNat z_Brake).Tested == (-1 : Int) then
                                        some ((x0.getD p1.toNat z_Brake).Measured != (0 : Int))
                                      else some false).bind
                  fun (r2 : Bool) =>
                  bif r2 then some (Sum.inr (Sum.inr (2 : Int)))
                  else
                    (whileF N
                          (fun (p3 : Int) =>
                            bif decide (p3 < p1) then
                              bif decide ((0 : Int) ≤ p3) && decide (p3 < (↑x0.length : Int)) then
                                bif (x0.getD p3.toNat z_Brake).ID == (x0.getD p1.toNat z_Brake).ID then
                                  some (Sum.inr (Sum.inr (7 : Int)))
                                else some (Sum.inl (IntKind.i64.wrap (p3 + (1 : Int))))
                              else none
                            else some (Sum.inr (Sum.inl ())))
                          (0 : Int)).bind
                      fun (r4 : Unit ⊕ Int) =>
                      Sum.elim (fun (p5 : Unit) => some (Sum.inl (IntKind.i64.wrap (p1 + (1 : Int)))))
                        (fun (p6 : Int) => some (Sum.inr (Sum.inr p6))) r4
              else none
            else some (Sum.inr (Sum.inl ())))
          (0 : Int)).bind
      fun (r7 : Unit ⊕ Int) => Sum.elim (fun (p8 : Unit) => some (0 : Int)) (fun (p9 : Int) => some p9) r7
theorem d_r15_Right (N : Nat) : DenF Tryz.prog 28 ⟨[.l_Brake], [.t_i64], [[none]], r15_Right N⟩ :=
  den_of (N := N) (gam := []) (txt := []) (hints := [(28, [([0, 1, 0, 1, 1], ⟨[0], [.reg 3 .t_i64 [none]], [(.ex 0, []), (.ret, [.reg 2 .t_i64 [none]])], []⟩), ([0, 0, 1, 0, 0, 1, 0, 0, 1, 0, 1, 1], ⟨[0, 3, 4], [], [(.nrm, [.reg 76 .t_bool [none]])], []⟩), ([0, 1, 1, 1, 0, 0, 1, 0, 0, 1, 0, 1, 1], ⟨[0, 3, 4], [.reg 5 .t_i64 [none]], [(.ex 2, []), (.ret, [.reg 2 .t_i64 [none]])], []⟩)])]) mixed .nil .nil Tryz.func28 (by kernel_rfl) (by kernel_rfl)

def r16_in (N : Nat) (x0 x1 x2 : Int) : Option Bool :=
 
  (bif decide (x0 ≥ x1) then some (decide (x0 ≤ x2)) else some false).bind fun (r3 : Bool) => some r3
theorem d_r16_in (N : Nat) : DenF Tryz.prog 63 ⟨[.t_i64, .t_i64, .t_i64], [.t_bool], [[none]], r16_in N⟩ :=
  den_of (N := N) (gam := []) (txt := []) (hints := [(63, [([0, 1], ⟨[], [], [(.nrm, [.reg 6 .t_bool [none]])], []⟩)])]) mixed .nil .nil Tryz.func63 (by kernel_rfl) (by kernel_rfl)

def r16_index (N : Nat) (x0 : List Contact) (x1 : Int) : Option Int :=
 
  (whileF N
        (fun (p2 : Int) =>
          bif decide (p2 < (↑x0.length : Int)) then
            bif decide ((0 : Int) ≤ p2) && decide (p2 < (↑x0.length : Int)) then
              bif (x0.getD p2.toNat z_Contact).ID == x1 then some (Sum.inr (Sum.inr p2))
              else some (Sum.inl (IntKind.i64.wrap (p2 + (1 : Int))))
            else none
          else some (Sum.inr (Sum.inl ())))
        (0 : Int)).bind
    fun (r3 : Unit ⊕ Int) => Sum.elim (fun (p4 : Unit) => some (-1 : Int)) (fun (p5 : Int) => some p5) r3
theorem d_r16_index (N : Nat) : DenF Tryz.prog 64 ⟨[.l_Contact, .t_i64], [.t_i64], [[none]], r16_index N⟩ :=
  den_of (N := N) (gam := []) (txt := []) (hints := [(64, [([0, 1, 0, 1], ⟨[0, 1], [.reg 5 .t_i64 [none]], [(.ex 0, []), (.ret, [.reg 4 .t_i64 [none]])], []⟩)])]) mixed .nil .nil Tryz.func64 (by kernel_rfl) (by kernel_rfl)

def r16_bypassed (N : Nat) (x0 : List Contact) : Option Int :=
 
  (whileF N
        (fun (p1 : Int) =>
          bif decide (p1 < (↑x0.length : Int)) then
            bif decide ((0 : Int) ≤ p1) && decide (p1 < (↑x0.length : Int)) then
              bif (x0.getD p1.toNat z_Contact).Until != (0 : Int) then some (Sum.inr (Sum.inr p1))
              else some (Sum.inl (IntKind.i64.wrap (p1 + (1 : Int))))
            else none
          else some (Sum.inr (Sum.inl ())))
        (0 : Int)).bind
    fun (r2 : Unit ⊕ Int) => Sum.elim (fun (p3 : Unit) => some (-1 : Int)) (fun (p4 : Int) => some p4) r2
theorem d_r16_bypassed (N : Nat) : DenF Tryz.prog 65 ⟨[.l_Contact], [.t_i64], [[none]], r16_bypassed N⟩ :=
  den_of (N := N) (gam := []) (txt := []) (hints := [(65, [([0, 1, 0, 1], ⟨[0], [.reg 3 .t_i64 [none]], [(.ex 0, []), (.ret, [.reg 2 .t_i64 [none]])], []⟩)])]) mixed .nil .nil Tryz.func65 (by kernel_rfl) (by kernel_rfl)

def r16_Right (N : Nat) (x0 : Chain) : Option Int :=
 
  bif decide ((↑x0.Contacts.length : Int) > (32 : Int)) then some (4 : Int)
  else
    (r16_in N x0.Key (0 : Int) (9999 : Int)).bind fun (r1 : Bool) =>
      bif !r1 then some (2 : Int)
      else
        (whileF N
              (fun (p2 : Int) =>
                bif decide (p2 < (↑x0.Contacts.length : Int)) then
                  bif decide ((0 : Int) ≤ p2) && decide (p2 < (↑x0.Contacts.length : Int)) then
                    ((r16_in N (x0.Contacts.getD p2.toNat z_Contact).ID (1 : Int) (9999 : Int)).bind fun (r3 : Bool) =>
                          bif !r3 then some true
                          else
                            (r16_in N (x0.Contacts.getD p2.toNat z_Contact).Until (0 : Int) (20000000 : Int)).bind
                              fun (r4 : Bool) => some !r4).bind
                      fun (r5 : Bool) =>
                      bif r5 then some (Sum.inr (Sum.inr (2 : Int)))
                      else
                        bif decide ((0 : Int) ≤ p2) && decide (p2 ≤ (↑x0.Contacts.length : Int)) then
                          (r16_index N (List.take p2.toNat x0.Contacts) (x0.Contacts.getD p2.toNat z_Contact).ID).bind
                            fun (r6 : Int) =>
                            bif decide (r6 ≥ (0 : Int)) then some (Sum.inr (Sum.inr (7 : Int)))
                            else
                              (bif !(x0.Contacts.getD p2.toNat z_Contact).Closed then
                                    some !(x0.Contacts.getD p2.toNat z_Contact).Latched
                                  else some false).bind
                                fun (r7 : Bool) =>
                                bif r7 then some (Sum.inr (Sum.inr (10 : Int)))
                                else
                                  (bif (x0.Contacts.getD p2.toNat z_Contact).Critical then
                                        some ((x0.Contacts.getD p2.toNat z_Contact).Until != (0 : Int))
                                      else some false).bind
                                    fun (r8 : Bool) =>
                                    bif r8 then some (Sum.inr (Sum.inr (13 : Int)))
                                    else
                                      (bif (x0.Contacts.getD p2.toNat z_Contact).Until != (0 : Int) then
                                            bif x0.Key == (0 : Int) then some true
                                            else
                                              bif
                                                  decide ((0 : Int) ≤ p2) &&
                                                    decide (p2 ≤ (↑x0.Contacts.length : Int)) then
                                                (r16_bypassed N (List.take p2.toNat x0.Contacts)).bind fun (r9 : Int) =>
                                                  some (decide (r9 ≥ (0 : Int)))
                                              else none
                                          else some false).bind
                                        fun (r10 : Bool) =>
                                        bif r10 then some (Sum.inr (Sum.inr (15 : Int)))
                                        else some (Sum.inl (IntKind.i64.wrap (p2 + (1 : Int))))
                        else none
                  else none
                else some (Sum.inr (Sum.inl ())))
              (0 : Int)).bind
          fun (r11 : Unit ⊕ Int) => Sum.elim (fun (p12 : Unit) => some (0 : Int)) (fun (p13 : Int) => some p13) r11
theorem d_r16_Right (N : Nat) : DenF Tryz.prog 29 ⟨[.t_Chain], [.t_i64], [[none]], r16_Right N⟩ :=
  den_of (N := N) (gam := [(63, ⟨[.t_i64, .t_i64, .t_i64], [.t_bool], [[none]], r16_in N⟩), (64, ⟨[.l_Contact, .t_i64], [.t_i64], [[none]], r16_index N⟩), (65, ⟨[.l_Contact], [.t_i64], [[none]], r16_bypassed N⟩)]) (txt := []) (hints := [(29, [([0, 1, 0, 1, 1, 1], ⟨[1], [.reg 3 .t_i64 [none]], [(.ex 0, []), (.ret, [.reg 2 .t_i64 [none]])], []⟩), ([0, 0, 1, 0, 0, 1, 0, 0, 1, 0, 1, 1, 1], ⟨[1, 3, 4], [], [(.nrm, [.reg 25 .t_bool [none]])], []⟩), ([0, 1, 1, 1, 1, 0, 1, 0, 0, 1, 0, 0, 1, 0, 1, 1, 1], ⟨[1, 3, 4], [], [(.nrm, [.reg 45 .t_bool [none]])], []⟩), ([0, 1, 1, 1, 1, 1, 1, 0, 1, 0, 0, 1, 0, 0, 1, 0, 1, 1, 1], ⟨[1, 3, 4], [], [(.nrm, [.reg 54 .t_bool [none]])], []⟩), ([0, 1, 1, 1, 1, 1, 1, 1, 1, 0, 1, 0, 0, 1, 0, 0, 1, 0, 1, 1, 1], ⟨[1, 3], [], [(.nrm, [.reg 62 .t_bool [none]])], []⟩)])]) mixed (.cons (d_r16_in N) (.cons (d_r16_index N) (.cons (d_r16_bypassed N) .nil))) .nil Tryz.func29 (by kernel_rfl) (by kernel_rfl)

def r19_in (N : Nat) (x0 x1 x2 : Int) : Option Bool :=
 
  (bif decide (x0 ≥ x1) then some (decide (x0 ≤ x2)) else some false).bind fun (r3 : Bool) => some r3
theorem d_r19_in (N : Nat) : DenF Tryz.prog 66 ⟨[.t_i64, .t_i64, .t_i64], [.t_bool], [[none]], r19_in N⟩ :=
  den_of (N := N) (gam := []) (txt := []) (hints := [(66, [([0, 1], ⟨[], [], [(.nrm, [.reg 6 .t_bool [none]])], []⟩)])]) mixed .nil .nil Tryz.func66 (by kernel_rfl) (by kernel_rfl)

def r19_Has (N : Nat) (x0 : List Int) (x1 : Int) : Option Bool :=
 
  (whileF N
        (fun (p2 : Int) =>
          bif decide (p2 < (↑x0.length : Int)) then
            bif decide ((0 : Int) ≤ p2) && decide (p2 < (↑x0.length : Int)) then
              bif x0.getD p2.toNat (0 : Int) == x1 then some (Sum.inr (Sum.inr true))
              else some (Sum.inl (IntKind.i64.wrap (p2 + (1 : Int))))
            else none
          else some (Sum.inr (Sum.inl ())))
        (0 : Int)).bind
    fun (r3 : Unit ⊕ Bool) => Sum.elim (fun (p4 : Unit) => some false) (fun (p5 : Bool) => some p5) r3
theorem d_r19_Has (N : Nat) : DenF Tryz.prog 67 ⟨[.l_i64, .t_i64], [.t_bool], [[none]], r19_Has N⟩ :=
  den_of (N := N) (gam := []) (txt := []) (hints := [(67, [([0, 1, 0, 1], ⟨[0, 1], [.reg 5 .t_i64 [none]], [(.ex 0, []), (.ret, [.reg 4 .t_bool [none]])], []⟩)])]) mixed .nil .nil Tryz.func67 (by kernel_rfl) (by kernel_rfl)

def r19_Right (N : Nat) (x0 : Checklist) : Option Int :=
 
  (bif decide ((↑x0.Items.length : Int) > (64 : Int)) then some true
      else some (decide ((↑x0.Signs.length : Int) > (200 : Int)))).bind
    fun (r1 : Bool) =>
    bif r1 then some (4 : Int)
    else
      (r19_in N x0.Every (1 : Int) (604800 : Int)).bind fun (r2 : Bool) =>
        bif !r2 then some (2 : Int)
        else
          (whileF N
                (fun (p3 : Int) =>
                  bif decide (p3 < (↑x0.Items.length : Int)) then
                    bif decide ((0 : Int) ≤ p3) && decide (p3 < (↑x0.Items.length : Int)) then
                      (r19_in N (x0.Items.getD p3.toNat (0 : Int)) (1 : Int) (9999 : Int)).bind fun (r4 : Bool) =>
                        bif !r4 then some (Sum.inr (Sum.inr (2 : Int)))
                        else
                          bif decide ((0 : Int) ≤ p3) && decide (p3 ≤ (↑x0.Items.length : Int)) then
                            bif decide ((0 : Int) ≤ p3) && decide (p3 < (↑x0.Items.length : Int)) then
                              (r19_Has N (List.take p3.toNat x0.Items) (x0.Items.getD p3.toNat (0 : Int))).bind
                                fun (r5 : Bool) =>
                                bif r5 then some (Sum.inr (Sum.inr (7 : Int)))
                                else some (Sum.inl (IntKind.i64.wrap (p3 + (1 : Int))))
                            else none
                          else none
                    else none
                  else some (Sum.inr (Sum.inl ())))
                (0 : Int)).bind
            fun (r6 : Unit ⊕ Int) =>
            Sum.elim
              (fun (p7 : Unit) =>
                (whileF N
                      (fun (p8 : Int) =>
                        bif decide (p8 < (↑x0.Signs.length : Int)) then
                          bif decide ((0 : Int) ≤ p8) && decide (p8 < (↑x0.Signs.length : Int)) then
                            (r19_Has N x0.Items (x0.Signs.getD p8.toNat z_Sign).Item).bind fun (r9 : Bool) =>
                              bif !r9 then some (Sum.inr (Sum.inr (8 : Int)))
                              else
                                (r19_in N (x0.Signs.getD p8.toNat z_Sign).By (1 : Int) (9999 : Int)).bind
                                  fun (r10 : Bool) =>
                                  bif !r10 then some (Sum.inr (Sum.inr (17 : Int)))
                                  else
                                    (r19_in N (x0.Signs.getD p8.toNat z_Sign).At (0 : Int) (20000000 : Int)).bind
                                      fun (r11 : Bool) =>
                                      bif !r11 then some (Sum.inr (Sum.inr (2 : Int)))
                                      else
                                        (bif decide (p8 > (0 : Int)) then
                                              bif
                                                  decide ((0 : Int) ≤ IntKind.i64.wrap (p8 - (1 : Int))) &&
                                                    decide
                                                      (IntKind.i64.wrap (p8 - (1 : Int)) <
                                                        (↑x0.Signs.length : Int)) then
                                                some
                                                  (decide
                                                    ((x0.Signs.getD p8.toNat z_Sign).At <
                                                      (x0.Signs.getD (IntKind.i64.wrap (p8 - (1 : Int))).toNat
                                                          z_Sign).At))
                                              else none
                                            else some false).bind
                                          fun (r12 : Bool) =>
                                          bif r12 then some (Sum.inr (Sum.inr (11 : Int)))
                                          else some (Sum.inl (IntKind.i64.wrap (p8 + (1 : Int))))
                          else none
                        else some (Sum.inr (Sum.inl ())))
                      (0 : Int)).bind
                  fun (r13 : Unit ⊕ Int) =>
                  Sum.elim (fun (p14 : Unit) => some (0 : Int)) (fun (p15 : Int) => some p15) r13)
              (fun (p16 : Int) => some p16) r6
theorem d_r19_Right (N : Nat) : DenF Tryz.prog 30 ⟨[.t_Checklist], [.t_i64], [[none]], r19_Right N⟩ :=
  den_of (N := N) (gam := [(66, ⟨[.t_i64, .t_i64, .t_i64], [.t_bool], [[none]], r19_in N⟩), (67, ⟨[.l_i64, .t_i64], [.t_bool], [[none]], r19_Has N⟩)]) (txt := []) (hints := [(30, [([0, 0, 1], ⟨[1], [], [(.nrm, [.reg 15 .t_bool [none]])], []⟩), ([0, 1, 0, 1, 1, 1], ⟨[1], [.reg 3 .t_i64 [none]], [(.ex 0, []), (.ret, [.reg 2 .t_i64 [none]])], []⟩), ([0, 1, 0, 1, 1, 1, 1], ⟨[1], [.reg 4 .t_i64 [none]], [(.ex 2, []), (.ret, [.reg 2 .t_i64 [none]])], []⟩), ([0, 1, 1, 1, 1, 1, 1, 0, 1, 0, 0, 1, 0, 0, 1, 0, 1, 1, 1, 1], ⟨[1, 4], [], [(.nrm, [.reg 73 .t_bool [none]])], []⟩)])]) mixed (.cons (d_r19_in N) (.cons (d_r19_Has N) .nil)) .nil Tryz.func30 (by kernel_rfl) (by kernel_rfl)

def r20_New (N : Nat) (x0 : Lift) (x1 : Motor) (x2 : List Brake) (x3 : Chain) (x4 : Alarm) (x5 : Checklist) : Option (LiftState × Int) :=
 
  (r17_New N x0).bind fun (r6 : Line × Int) =>
    bif r6.snd != (0 : Int) then some (z_LiftState, r6.snd)
    else
      (r20_suits N x0 x1 x4 (0 : Int)).bind fun (r7 : Bool) =>
        bif !r7 then some (z_LiftState, (1 : Int))
        else
          (r15_Right N x2).bind fun (r8 : Int) =>
            bif r8 != (0 : Int) then some (z_LiftState, r8)
            else
              (r16_Right N x3).bind fun (r9 : Int) =>
                bif r9 != (0 : Int) then some (z_LiftState, r9)
                else
                  (r19_Right N x5).bind fun (r10 : Int) =>
                    bif r10 != (0 : Int) then some (z_LiftState, r10)
                    else
                      some
                        (LiftState.mk x0 x1 z_Drive x2 x3 x4 r6.fst z_Queue x5 (0 : Int) (0 : Int) (0 : Int) (0 : Int),
                          (0 : Int))
theorem d_r20_New (N : Nat) : DenF Tryz.prog 9 ⟨[.t_Lift, .t_Motor, .l_Brake, .t_Chain, .t_Alarm, .t_Checklist], [.t_LiftState, .t_i64], [[none, none, none, none, none, none, none, none, none, none, none, none, none, none, none, none, none, none, none, none, none, none, none, none, none, none, none, none, none, none, none, none, none, none, none, none, none], [none]], r20_New N⟩ :=
  den_of (N := N) (gam := [(26, ⟨[.t_Lift], [.t_Line, .t_i64], [[none, none, none, some 3], [none]], r17_New N⟩), (27, ⟨[.t_Lift, .t_Motor, .t_Alarm, .t_i64], [.t_bool], [[none]], r20_suits N⟩), (28, ⟨[.l_Brake], [.t_i64], [[none]], r15_Right N⟩), (29, ⟨[.t_Chain], [.t_i64], [[none]], r16_Right N⟩), (30, ⟨[.t_Checklist], [.t_i64], [[none]], r19_Right N⟩)]) (txt := []) (hints := []) mixed (.cons (d_r17_New N) (.cons (d_r20_suits N) (.cons (d_r15_Right N) (.cons (d_r16_Right N) (.cons (d_r19_Right N) .nil))))) .nil Tryz.func9 (by kernel_rfl) (by kernel_rfl)
end Go.Proofs.YthjmbcnohgaihaaGreat
