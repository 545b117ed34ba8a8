/- Written by a program (gen.py, asm.py): what each function computes, as a plain function, and that its text computes it. No condition. -/
import Derived.Test.YthjmbcnohgaihaaGreatSg
import Derived.Test.YthjmbcnohgaihaaGreatCmo
namespace Go.Proofs.YthjmbcnohgaihaaGreat
open Go.Cm Go.Proofs
set_option linter.unusedVariables false
set_option maxRecDepth 100000

def l20_example (N : Nat) : Option Make :=
 
  (some
        [Brake.mk (1 : Int) (0 : Int) (20000 : Int) (-1 : Int) (0 : Int),
          Brake.mk (2 : Int) (1 : Int) (20000 : Int) (-1 : Int) (0 : Int)]).bind
    fun (r0 : List Brake) =>
    (some [Contact.mk (1 : Int) true true false (0 : Int), Contact.mk (2 : Int) false true false (0 : Int)]).bind
      fun (r1 : List Contact) =>
      (some [(1 : Int)]).bind fun (r2 : List Int) =>
        some
          (Make.mk (Lift.mk (1 : Int) (1 : Int) (1 : Int) (2 : Int) (500 : Int) (5000 : Int) (4 : Int) (50 : Int))
            (Motor.mk (5000 : Int) (500 : Int) (500 : Int) (1000 : Int)) r0 (Chain.mk r1 (0 : Int))
            (Alarm.mk (20000 : Int) (15000 : Int) (600 : Int) false (-1 : Int)) (Checklist.mk r2 (86400 : Int) []))
theorem d_l20_example (N : Nat) : DenF Tryz.prog 60 ⟨[], [.t_Make], [[none, none, none, none, none, none, none, none, none, none, none, none, some 89, some 92, none, none, none, none, none, none, some 3, none, some 97]], l20_example N⟩ :=
  den_of (N := N) (gam := []) (txt := []) (hints := []) mixed .nil .nil Tryz.func60 (by kernel_rfl) (by kernel_rfl)

def rope_New (N : Nat) (x0 : Lift) : Option (Line × Int) :=
 
  (bif decide (x0.Length < (10 : Int)) then some true
      else
        bif decide (x0.Length > (6000 : Int)) then some true
        else bif decide (x0.Spacing < (5 : Int)) then some true else some (decide (x0.Spacing > (1000 : Int)))).bind
    fun (r1 : Bool) =>
    bif r1 then some (z_Line, (1 : Int))
    else
      bif x0.Spacing != (0 : Int) then
        (bif
                IntKind.i64.wrap
                    (IntKind.i64.wrap ((IntKind.i64.wrap ((2 : Int) * x0.Length)).tdiv x0.Spacing) * x0.Spacing) !=
                  IntKind.i64.wrap ((2 : Int) * x0.Length) then
              some true
            else
              some
                (decide
                  (IntKind.i64.wrap ((IntKind.i64.wrap ((2 : Int) * x0.Length)).tdiv x0.Spacing) > (200 : Int)))).bind
          fun (r2 : Bool) =>
          bif r2 then some (z_Line, (1 : Int))
          else
            bif
                decide ((0 : Int) ≤ IntKind.i64.wrap ((IntKind.i64.wrap ((2 : Int) * x0.Length)).tdiv x0.Spacing)) &&
                  (decide
                      (IntKind.i64.wrap ((IntKind.i64.wrap ((2 : Int) * x0.Length)).tdiv x0.Spacing) ≤
                        IntKind.i64.wrap ((IntKind.i64.wrap ((2 : Int) * x0.Length)).tdiv x0.Spacing)) &&
                    decide
                      (IntKind.i64.wrap ((IntKind.i64.wrap ((2 : Int) * x0.Length)).tdiv x0.Spacing) * (8 : Int) ≤
                        (140737488355328 : Int))) then
              (some
                    (List.replicate
                      (IntKind.i64.wrap ((IntKind.i64.wrap ((2 : Int) * x0.Length)).tdiv x0.Spacing)).toNat
                      (0 : Int))).bind
                fun (r3 : List Int) =>
                some
                  (Line.mk (IntKind.i64.wrap ((2000 : Int) * x0.Length)) (IntKind.i64.wrap ((1000 : Int) * x0.Spacing))
                      (0 : Int) r3,
                    (0 : Int))
            else none
      else none
theorem d_rope_New (N : Nat) : DenF Tryz.prog 33 ⟨[.t_Lift], [.t_Line, .t_i64], [[none, none, none, some 3], [none]], rope_New N⟩ :=
  den_of (N := N) (gam := []) (txt := []) (hints := [(33, [([0, 0, 1], ⟨[1, 2], [], [(.nrm, [.reg 22 .t_bool [none]])], []⟩), ([0, 0, 1, 1, 1], ⟨[1, 2, 4], [], [(.nrm, [.reg 41 .t_bool [none]])], []⟩)])]) mixed .nil .nil Tryz.func33 (by kernel_rfl) (by kernel_rfl)

def drive_within (N : Nat) (x0 x1 x2 : Int) : Option Bool :=
 
  (bif decide (x1 ≤ x0) then some (decide (x0 ≤ x2)) else some false).bind fun (r3 : Bool) => some r3
theorem d_drive_within (N : Nat) : DenF Tryz.prog 70 ⟨[.t_i64, .t_i64, .t_i64], [.t_bool], [[none]], drive_within N⟩ :=
  den_of (N := N) (gam := []) (txt := []) (hints := [(70, [([0, 1], ⟨[], [], [(.nrm, [.reg 6 .t_bool [none]])], []⟩)])]) mixed .nil .nil Tryz.func70 (by kernel_rfl) (by kernel_rfl)

def drive_Right (N : Nat) (x0 : Motor) : Option Bool :=
 
  ((drive_within N x0.Max (500 : Int) (12000 : Int)).bind fun (r1 : Bool) =>
        bif r1 then
          (drive_within N x0.Up (50 : Int) (2000 : Int)).bind fun (r2 : Bool) =>
            bif r2 then
              (drive_within N x0.Down (50 : Int) (2000 : Int)).bind fun (r3 : Bool) =>
                bif r3 then (drive_within N x0.Stop x0.Down (5000 : Int)).bind fun (r4 : Bool) => some r4
                else some false
            else some false
        else some false).bind
    fun (r5 : Bool) => some r5
theorem d_drive_Right (N : Nat) : DenF Tryz.prog 68 ⟨[.t_Motor], [.t_bool], [[none]], drive_Right N⟩ :=
  den_of (N := N) (gam := [(70, ⟨[.t_i64, .t_i64, .t_i64], [.t_bool], [[none]], drive_within N⟩)]) (txt := []) (hints := [(68, [([0, 1], ⟨[], [], [(.nrm, [.reg 2 .t_bool [none]])], []⟩)])]) mixed (.cons (d_drive_within N) .nil) .nil Tryz.func68 (by kernel_rfl) (by kernel_rfl)

def weather_within (N : Nat) (x0 x1 x2 : Int) : Option Bool :=
 
  (bif decide (x1 ≤ x0) then some (decide (x0 ≤ x2)) else some false).bind fun (r3 : Bool) => some r3
theorem d_weather_within (N : Nat) : DenF Tryz.prog 109 ⟨[.t_i64, .t_i64, .t_i64], [.t_bool], [[none]], weather_within N⟩ :=
  den_of (N := N) (gam := []) (txt := []) (hints := [(109, [([0, 1], ⟨[], [], [(.nrm, [.reg 6 .t_bool [none]])], []⟩)])]) mixed .nil .nil Tryz.func109 (by kernel_rfl) (by kernel_rfl)

def weather_Update (N : Nat) (x0 : Alarm) (x1 x2 : Int) : Option (Alarm × Int) :=
 
  (bif decide (x0.Off < (0 : Int)) then some true
      else
        bif decide (x0.On < x0.Off) then some true
        else
          (weather_within N x0.Hold (0 : Int) (86400 : Int)).bind fun (r3 : Bool) =>
            bif !r3 then some true
            else
              bif decide (x1 < (0 : Int)) then some true
              else
                (weather_within N x2 (0 : Int) (20000000 : Int)).bind fun (r4 : Bool) =>
                  bif !r4 then some true else some (decide (x0.Low > x2))).bind
    fun (r5 : Bool) =>
    bif r5 then some (x0, (2 : Int))
    else
      (bif decide (x1 ≥ x0.On) then some (Alarm.mk x0.On x0.Off x0.Hold true (-1 : Int))
          else
            (bif decide (x1 ≥ x0.Off) then some (Alarm.mk x0.On x0.Off x0.Hold x0.Active (-1 : Int))
                else
                  (bif decide (x0.Low < (0 : Int)) then some (Alarm.mk x0.On x0.Off x0.Hold x0.Active x2)
                      else some x0).bind
                    fun (r6 : Alarm) =>
                    (bif decide (IntKind.i64.wrap (x2 - r6.Low) ≥ r6.Hold) then
                          some (Alarm.mk r6.On r6.Off r6.Hold false r6.Low)
                        else some r6).bind
                      fun (r7 : Alarm) => some r7).bind
              fun (r8 : Alarm) => some r8).bind
        fun (r9 : Alarm) => some (r9, (0 : Int))
theorem d_weather_Update (N : Nat) : DenF Tryz.prog 69 ⟨[.t_Alarm, .t_i64, .t_i64], [.t_Alarm, .t_i64], [[none, none, none, none, none], [none]], weather_Update N⟩ :=
  den_of (N := N) (gam := [(109, ⟨[.t_i64, .t_i64, .t_i64], [.t_bool], [[none]], weather_within N⟩)]) (txt := []) (hints := [(69, [([0, 0, 1], ⟨[1, 2, 3, 6], [], [(.nrm, [.reg 38 .t_bool [none]])], []⟩), ([1, 0, 0, 1, 1], ⟨[3, 6], [], [(.nrm, [.var 3 .t_Alarm [none, none, none, none, none]])], []⟩), ([1, 1, 1, 0, 0, 1, 1], ⟨[3, 6], [], [(.nrm, [.var 3 .t_Alarm [none, none, none, none, none]])], []⟩), ([1, 0, 1, 1, 1, 1, 0, 0, 1, 1], ⟨[2, 3, 6], [], [(.nrm, [.var 3 .t_Alarm [none, none, none, none, none]])], []⟩), ([1, 1, 1, 1, 1, 1, 0, 0, 1, 1], ⟨[3, 6], [], [(.nrm, [.var 3 .t_Alarm [none, none, none, none, none]])], []⟩)])]) mixed (.cons (d_weather_within N) .nil) .nil Tryz.func69 (by kernel_rfl) (by kernel_rfl)

def lift_fits (N : Nat) (x0 : Lift) (x1 : Motor) (x2 : Alarm) (x3 : Int) : Option Bool :=
 
  ((drive_Right N x1).bind fun (r4 : Bool) =>
        bif !r4 then some true
        else
          bif decide (x1.Max > x0.Speed) then some true
          else some (decide (x1.Max > IntKind.i64.wrap ((500 : Int) * x0.Spacing)))).bind
    fun (r5 : Bool) =>
    bif r5 then some false
    else
      (bif decide (x0.Seats < (1 : Int)) then some true else some (decide (x0.Seats > (16 : Int)))).bind
        fun (r6 : Bool) =>
        bif r6 then some false
        else (weather_Update N x2 (0 : Int) x3).bind fun (r7 : Alarm × Int) => some (r7.snd == (0 : Int))
theorem d_lift_fits (N : Nat) : DenF Tryz.prog 34 ⟨[.t_Lift, .t_Motor, .t_Alarm, .t_i64], [.t_bool], [[none]], lift_fits N⟩ :=
  den_of (N := N) (gam := [(68, ⟨[.t_Motor], [.t_bool], [[none]], drive_Right N⟩), (69, ⟨[.t_Alarm, .t_i64, .t_i64], [.t_Alarm, .t_i64], [[none, none, none, none, none], [none]], weather_Update N⟩)]) (txt := []) (hints := [(34, [([0, 0, 1], ⟨[3, 4, 6], [], [(.nrm, [.reg 28 .t_bool [none]])], []⟩), ([0, 0, 1, 1], ⟨[3, 6], [], [(.nrm, [.reg 36 .t_bool [none]])], []⟩)])]) mixed (.cons (d_drive_Right N) (.cons (d_weather_Update N) .nil)) .nil Tryz.func34 (by kernel_rfl) (by kernel_rfl)

def brake_within (N : Nat) (x0 x1 x2 : Int) : Option Bool :=
 
  (bif decide (x1 ≤ x0) then some (decide (x0 ≤ x2)) else some false).bind fun (r3 : Bool) => some r3
theorem d_brake_within (N : Nat) : DenF Tryz.prog 110 ⟨[.t_i64, .t_i64, .t_i64], [.t_bool], [[none]], brake_within N⟩ :=
  den_of (N := N) (gam := []) (txt := []) (hints := [(110, [([0, 1], ⟨[], [], [(.nrm, [.reg 6 .t_bool [none]])], []⟩)])]) mixed .nil .nil Tryz.func110 (by kernel_rfl) (by kernel_rfl)

def brake_inRange (N : Nat) (x0 : Brake) : Option Bool :=
 
  ((brake_within N x0.ID (1 : Int) (9999 : Int)).bind fun (r1 : Bool) =>
        bif r1 then
          bif x0.Kind == (0 : Int) then
            (brake_within N x0.Force (1 : Int) (10000000 : Int)).bind fun (r2 : Bool) =>
              bif r2 then
                (brake_within N x0.Tested (-1 : Int) (20000000 : Int)).bind fun (r3 : Bool) =>
                  bif r3 then
                    (brake_within N x0.Measured (0 : Int) (10000000 : Int)).bind fun (r4 : Bool) =>
                      bif r4 then bif x0.Tested != (-1 : Int) then some true else some (x0.Measured == (0 : Int))
                      else some false
                  else some false
              else some false
          else
            bif x0.Kind == (1 : Int) then
              (brake_within N x0.Force (1 : Int) (10000000 : Int)).bind fun (r5 : Bool) =>
                bif r5 then
                  (brake_within N x0.Tested (-1 : Int) (20000000 : Int)).bind fun (r6 : Bool) =>
                    bif r6 then
                      (brake_within N x0.Measured (0 : Int) (10000000 : Int)).bind fun (r7 : Bool) =>
                        bif r7 then bif x0.Tested != (-1 : Int) then some true else some (x0.Measured == (0 : Int))
                        else some false
                    else some false
                else some false
            else some false
        else some false).bind
    fun (r8 : Bool) => some r8
theorem d_brake_inRange (N : Nat) : DenF Tryz.prog 72 ⟨[.t_Brake], [.t_bool], [[none]], brake_inRange N⟩ :=
  den_of (N := N) (gam := [(110, ⟨[.t_i64, .t_i64, .t_i64], [.t_bool], [[none]], brake_within N⟩)]) (txt := []) (hints := [(72, [([0, 1], ⟨[], [], [(.nrm, [.reg 2 .t_bool [none]])], []⟩)])]) mixed (.cons (d_brake_within N) .nil) .nil Tryz.func72 (by kernel_rfl) (by kernel_rfl)

def brake_find (N : Nat) (x0 : List Brake) (x1 : Int) : Option Int :=
 
  (whileF N
        (fun (p2 : Int) =>
          bif decide (p2 < (↑x0.length : Int)) then
            bif decide ((0 : Int) ≤ p2) && decide (p2 < (↑x0.length : Int)) then
              bif (x0.getD p2.toNat z_Brake).ID == x1 then some (Sum.inr (Sum.inr p2))
              else some (Sum.inl (IntKind.i64.wrap (p2 + (1 : Int))))
            else none
          else some (Sum.inr (Sum.inl ())))
        (0 : Int)).bind
    fun (r3 : Unit ⊕ Int) => Sum.elim (fun (p4 : Unit) => some (-1 : Int)) (fun (p5 : Int) => some p5) r3
theorem d_brake_find (N : Nat) : DenF Tryz.prog 73 ⟨[.l_Brake, .t_i64], [.t_i64], [[none]], brake_find N⟩ :=
  den_of (N := N) (gam := []) (txt := [(112, Tryz.f112), (111, Tryz.f111)]) (hints := [(111, [([0, 1, 0, 1], ⟨[0, 1, 7], [.reg 8 .t_i64 [none]], [(.ex 0, []), (.ret, [.reg 4 .t_i64 [none]])], []⟩)])]) mixed .nil (.cons Tryz.func112 (.cons Tryz.func111 .nil)) Tryz.func73 (by kernel_rfl) (by kernel_rfl)

def brake_Right (N : Nat) (x0 : List Brake) : Option Int :=
 
  bif decide ((↑x0.length : Int) > (8 : Int)) then some (4 : Int)
  else
    (whileF N
          (fun (p1 : Int) =>
            bif decide (p1 < (↑x0.length : Int)) then
              bif decide ((0 : Int) ≤ p1) && decide (p1 < (↑x0.length : Int)) then
                (brake_inRange N (x0.getD p1.toNat z_Brake)).bind fun (r2 : Bool) =>
                  bif !r2 then some (Sum.inr (Sum.inr (2 : Int)))
                  else
                    bif decide ((0 : Int) ≤ p1) && decide (p1 ≤ (↑x0.length : Int)) then
                      (brake_find N (List.take p1.toNat x0) (x0.getD p1.toNat z_Brake).ID).bind fun (r3 : Int) =>
                        bif decide (r3 ≥ (0 : Int)) then some (Sum.inr (Sum.inr (7 : Int)))
                        else some (Sum.inl (IntKind.i64.wrap (p1 + (1 : Int))))
                    else none
              else none
            else some (Sum.inr (Sum.inl ())))
          (0 : Int)).bind
      fun (r4 : Unit ⊕ Int) => Sum.elim (fun (p5 : Unit) => some (0 : Int)) (fun (p6 : Int) => some p6) r4
theorem d_brake_Right (N : Nat) : DenF Tryz.prog 38 ⟨[.l_Brake], [.t_i64], [[none]], brake_Right N⟩ :=
  den_of (N := N) (gam := [(72, ⟨[.t_Brake], [.t_bool], [[none]], brake_inRange N⟩), (73, ⟨[.l_Brake, .t_i64], [.t_i64], [[none]], brake_find N⟩)]) (txt := []) (hints := [(38, [([0, 1, 0, 1, 1], ⟨[0, 8, 9], [.reg 10 .t_i64 [none]], [(.ex 0, []), (.ret, [.reg 2 .t_i64 [none]])], []⟩)])]) mixed (.cons (d_brake_inRange N) (.cons (d_brake_find N) .nil)) .nil Tryz.func38 (by kernel_rfl) (by kernel_rfl)

def chain_find (N : Nat) (x0 : Chain) (x1 : Int) : Option Int :=
 
  (whileF N
        (fun (p2 : Int) =>
          bif decide (p2 < (↑x0.Contacts.length : Int)) then
            bif decide ((0 : Int) ≤ p2) && decide (p2 < (↑x0.Contacts.length : Int)) then
              bif (x0.Contacts.getD p2.toNat z_Contact).ID == x1 then some (Sum.inr (Sum.inr p2))
              else some (Sum.inl (IntKind.i64.wrap (p2 + (1 : Int))))
            else none
          else some (Sum.inr (Sum.inl ())))
        (0 : Int)).bind
    fun (r3 : Unit ⊕ Int) => Sum.elim (fun (p4 : Unit) => some (-1 : Int)) (fun (p5 : Int) => some p5) r3
theorem d_chain_find (N : Nat) : DenF Tryz.prog 113 ⟨[.t_Chain, .t_i64], [.t_i64], [[none]], chain_find N⟩ :=
  den_of (N := N) (gam := []) (txt := [(144, Tryz.f144), (143, Tryz.f143)]) (hints := [(143, [([0, 1, 0, 1], ⟨[0, 1, 7], [.reg 8 .t_i64 [none]], [(.ex 0, []), (.ret, [.reg 4 .t_i64 [none]])], []⟩)])]) mixed .nil (.cons Tryz.func144 (.cons Tryz.func143 .nil)) Tryz.func113 (by kernel_rfl) (by kernel_rfl)

def chain_rightContact_1 (N : Nat) (x0 : Contact) : Option Bool :=
  some (x0.Until != (0 : Int))
theorem d_chain_rightContact_1 (N : Nat) : DenF Tryz.prog 115 ⟨[.t_Contact], [.t_bool], [[none]], chain_rightContact_1 N⟩ :=
  den_of (N := N) (gam := []) (txt := []) (hints := []) mixed .nil .nil Tryz.func115 (by kernel_rfl) (by kernel_rfl)

def chain_rightContact (N : Nat) (x0 : Chain) (x1 : Int) : Option Int :=
 
  bif decide ((0 : Int) ≤ x1) && decide (x1 < (↑x0.Contacts.length : Int)) then
    (bif decide ((x0.Contacts.getD x1.toNat z_Contact).ID < (1 : Int)) then some true
        else
          bif decide ((x0.Contacts.getD x1.toNat z_Contact).ID > (9999 : Int)) then some true
          else
            bif decide ((x0.Contacts.getD x1.toNat z_Contact).Until < (0 : Int)) then some true
            else some (decide ((x0.Contacts.getD x1.toNat z_Contact).Until > (20000000 : Int)))).bind
      fun (r2 : Bool) =>
      bif r2 then some (2 : Int)
      else
        (chain_find N x0 (x0.Contacts.getD x1.toNat z_Contact).ID).bind fun (r3 : Int) =>
          bif decide (r3 < x1) then some (7 : Int)
          else
            (bif !(x0.Contacts.getD x1.toNat z_Contact).Closed then some !(x0.Contacts.getD x1.toNat z_Contact).Latched
                else some false).bind
              fun (r4 : Bool) =>
              bif r4 then some (10 : Int)
              else
                (bif (x0.Contacts.getD x1.toNat z_Contact).Critical then
                      some ((x0.Contacts.getD x1.toNat z_Contact).Until != (0 : Int))
                    else some false).bind
                  fun (r5 : Bool) =>
                  bif r5 then some (13 : Int)
                  else
                    bif decide ((0 : Int) ≤ x1) && decide (x1 ≤ (↑x0.Contacts.length : Int)) then
                      (whileF N
                            (fun (p6 : Int) =>
                              bif decide (p6 < (↑(List.take x1.toNat x0.Contacts).length : Int)) then
                                bif
                                    decide ((0 : Int) ≤ p6) &&
                                      decide (p6 < (↑(List.take x1.toNat x0.Contacts).length : Int)) then
                                  (chain_rightContact_1 N
                                        ((List.take x1.toNat x0.Contacts).getD p6.toNat z_Contact)).bind
                                    fun (r7 : Bool) =>
                                    bif r7 then some (Sum.inr (Sum.inr p6))
                                    else some (Sum.inl (IntKind.i64.wrap (p6 + (1 : Int))))
                                else none
                              else some (Sum.inr (Sum.inl ())))
                            (0 : Int)).bind
                        fun (r8 : Unit ⊕ Int) =>
                        Sum.elim
                          (fun (p9 : Unit) =>
                            (bif (x0.Contacts.getD x1.toNat z_Contact).Until != (0 : Int) then
                                  bif x0.Key == (0 : Int) then some true else some false
                                else some false).bind
                              fun (r10 : Bool) => bif r10 then some (15 : Int) else some (0 : Int))
                          (fun (p11 : Int) =>
                            (bif (x0.Contacts.getD x1.toNat z_Contact).Until != (0 : Int) then
                                  bif x0.Key == (0 : Int) then some true else some (decide (p11 ≥ (0 : Int)))
                                else some false).bind
                              fun (r12 : Bool) => bif r12 then some (15 : Int) else some (0 : Int))
                          r8
                    else none
  else none
theorem d_chain_rightContact (N : Nat) : DenF Tryz.prog 74 ⟨[.t_Chain, .t_i64], [.t_i64], [[none]], chain_rightContact N⟩ :=
  den_of (N := N) (gam := [(113, ⟨[.t_Chain, .t_i64], [.t_i64], [[none]], chain_find N⟩), (115, ⟨[.t_Contact], [.t_bool], [[none]], chain_rightContact_1 N⟩)]) (txt := [(114, Tryz.f114), (143, Tryz.f143)]) (hints := [(74, [([0, 0, 1, 1], ⟨[1, 2, 5], [], [(.nrm, [.reg 29 .t_bool [none]])], []⟩), ([0, 0, 1, 1, 1, 1], ⟨[1, 2, 5], [], [(.nrm, [.reg 43 .t_bool [none]])], []⟩), ([0, 0, 1, 1, 1, 1, 1], ⟨[1, 2, 5], [], [(.nrm, [.reg 50 .t_bool [none]])], []⟩), ([0, 0, 1, 1, 1, 1, 1, 1, 1], ⟨[], [], [(.nrm, [.reg 66 .t_bool [none]])], []⟩)]), (143, [([0, 1, 0, 1], ⟨[0, 1, 7], [.reg 8 .t_i64 [none]], [(.ex 0, []), (.ret, [.reg 4 .t_i64 [none]])], []⟩)])]) mixed (.cons (d_chain_find N) (.cons (d_chain_rightContact_1 N) .nil)) (.cons Tryz.func114 (.cons Tryz.func143 .nil)) Tryz.func74 (by kernel_rfl) (by kernel_rfl)
end Go.Proofs.YthjmbcnohgaihaaGreat
