/- Written by a program (gen.py, asm.py): what each function computes, as a plain function, and that its text computes it. No condition. -/
import Derived.Test.YthjmbcnohgaihaaGreatFn6
import Derived.Test.YthjmbcnohgaihaaGreatCmo
namespace Go.Proofs.YthjmbcnohgaihaaGreat
open Go.Cm Go.Proofs
set_option linter.unusedVariables false
set_option maxRecDepth 100000

def r20_ints (N : Nat) (x0 x1 : List Int) : Option Bool :=
 
  bif (↑x0.length : Int) != (↑x1.length : Int) then some false
  else
    (whileF N
          (fun (p2 : Int) =>
            bif decide (p2 < (↑x0.length : Int)) then
              bif decide ((0 : Int) ≤ p2) && decide (p2 < (↑x0.length : Int)) then
                bif decide ((0 : Int) ≤ p2) && decide (p2 < (↑x1.length : Int)) then
                  bif x0.getD p2.toNat (0 : Int) != x1.getD p2.toNat (0 : Int) then some (Sum.inr (Sum.inr false))
                  else some (Sum.inl (IntKind.i64.wrap (p2 + (1 : Int))))
                else none
              else none
            else some (Sum.inr (Sum.inl ())))
          (0 : Int)).bind
      fun (r3 : Unit ⊕ Bool) => Sum.elim (fun (p4 : Unit) => some true) (fun (p5 : Bool) => some p5) r3
theorem d_r20_ints (N : Nat) : DenF Tryz.prog 31 ⟨[.l_i64, .l_i64], [.t_bool], [[none]], r20_ints N⟩ :=
  den_of (N := N) (gam := []) (txt := []) (hints := [(31, [([0, 1, 0, 1, 1], ⟨[0, 1], [.reg 5 .t_i64 [none]], [(.ex 0, []), (.ret, [.reg 4 .t_bool [none]])], []⟩)])]) mixed .nil .nil Tryz.func31 (by kernel_rfl) (by kernel_rfl)

def r20_lists (N : Nat) (x0 x1 : LiftState) : Option Bool :=
 
  (bif (↑x0.Brakes.length : Int) != (↑x1.Brakes.length : Int) then some true
      else
        bif (↑x0.Chain.Contacts.length : Int) != (↑x1.Chain.Contacts.length : Int) then some true
        else some ((↑x0.Checks.Signs.length : Int) != (↑x1.Checks.Signs.length : Int))).bind
    fun (r2 : Bool) =>
    bif r2 then some false
    else
      (whileF N
            (fun (p3 : Int) =>
              bif decide (p3 < (↑x0.Brakes.length : Int)) then
                bif decide ((0 : Int) ≤ p3) && decide (p3 < (↑x0.Brakes.length : Int)) then
                  bif decide ((0 : Int) ≤ p3) && decide (p3 < (↑x1.Brakes.length : Int)) then
                    bif
                        !((x0.Brakes.getD p3.toNat z_Brake).ID == (x1.Brakes.getD p3.toNat z_Brake).ID &&
                            ((x0.Brakes.getD p3.toNat z_Brake).Kind == (x1.Brakes.getD p3.toNat z_Brake).Kind &&
                              ((x0.Brakes.getD p3.toNat z_Brake).Force == (x1.Brakes.getD p3.toNat z_Brake).Force &&
                                ((x0.Brakes.getD p3.toNat z_Brake).Tested == (x1.Brakes.getD p3.toNat z_Brake).Tested &&
                                  ((x0.Brakes.getD p3.toNat z_Brake).Measured ==
                                      (x1.Brakes.getD p3.toNat z_Brake).Measured &&
                                    true))))) then
                      some (Sum.inr (Sum.inr false))
                    else some (Sum.inl (IntKind.i64.wrap (p3 + (1 : Int))))
                  else none
                else none
              else some (Sum.inr (Sum.inl ())))
            (0 : Int)).bind
        fun (r4 : Unit ⊕ Bool) =>
        Sum.elim
          (fun (p5 : Unit) =>
            (whileF N
                  (fun (p6 : Int) =>
                    bif decide (p6 < (↑x0.Chain.Contacts.length : Int)) then
                      bif decide ((0 : Int) ≤ p6) && decide (p6 < (↑x0.Chain.Contacts.length : Int)) then
                        bif decide ((0 : Int) ≤ p6) && decide (p6 < (↑x1.Chain.Contacts.length : Int)) then
                          bif
                              !((x0.Chain.Contacts.getD p6.toNat z_Contact).ID ==
                                    (x1.Chain.Contacts.getD p6.toNat z_Contact).ID &&
                                  ((x0.Chain.Contacts.getD p6.toNat z_Contact).Critical ==
                                      (x1.Chain.Contacts.getD p6.toNat z_Contact).Critical &&
                                    ((x0.Chain.Contacts.getD p6.toNat z_Contact).Closed ==
                                        (x1.Chain.Contacts.getD p6.toNat z_Contact).Closed &&
                                      ((x0.Chain.Contacts.getD p6.toNat z_Contact).Latched ==
                                          (x1.Chain.Contacts.getD p6.toNat z_Contact).Latched &&
                                        ((x0.Chain.Contacts.getD p6.toNat z_Contact).Until ==
                                            (x1.Chain.Contacts.getD p6.toNat z_Contact).Until &&
                                          true))))) then
                            some (Sum.inr (Sum.inr false))
                          else some (Sum.inl (IntKind.i64.wrap (p6 + (1 : Int))))
                        else none
                      else none
                    else some (Sum.inr (Sum.inl ())))
                  (0 : Int)).bind
              fun (r7 : Unit ⊕ Bool) =>
              Sum.elim
                (fun (p8 : Unit) =>
                  (whileF N
                        (fun (p9 : Int) =>
                          bif decide (p9 < (↑x0.Checks.Signs.length : Int)) then
                            bif decide ((0 : Int) ≤ p9) && decide (p9 < (↑x0.Checks.Signs.length : Int)) then
                              bif decide ((0 : Int) ≤ p9) && decide (p9 < (↑x1.Checks.Signs.length : Int)) then
                                bif
                                    !((x0.Checks.Signs.getD p9.toNat z_Sign).Item ==
                                          (x1.Checks.Signs.getD p9.toNat z_Sign).Item &&
                                        ((x0.Checks.Signs.getD p9.toNat z_Sign).By ==
                                            (x1.Checks.Signs.getD p9.toNat z_Sign).By &&
                                          ((x0.Checks.Signs.getD p9.toNat z_Sign).At ==
                                              (x1.Checks.Signs.getD p9.toNat z_Sign).At &&
                                            true))) then
                                  some (Sum.inr (Sum.inr false))
                                else some (Sum.inl (IntKind.i64.wrap (p9 + (1 : Int))))
                              else none
                            else none
                          else some (Sum.inr (Sum.inl ())))
                        (0 : Int)).bind
                    fun (r10 : Unit ⊕ Bool) =>
                    Sum.elim (fun (p11 : Unit) => some true) (fun (p12 : Bool) => some p12) r10)
                (fun (p13 : Bool) => some p13) r7)
          (fun (p14 : Bool) => some p14) r4
theorem d_r20_lists (N : Nat) : DenF Tryz.prog 32 ⟨[.t_LiftState, .t_LiftState], [.t_bool], [[none]], r20_lists N⟩ :=
  den_of (N := N) (gam := []) (txt := []) (hints := [(32, [([0, 0, 1], ⟨[2, 3], [], [(.nrm, [.reg 36 .t_bool [none]])], []⟩), ([0, 1, 0, 1, 1], ⟨[2, 3], [.reg 5 .t_i64 [none]], [(.ex 0, []), (.ret, [.reg 4 .t_bool [none]])], []⟩), ([0, 1, 0, 1, 1, 1], ⟨[2, 3], [.reg 6 .t_i64 [none]], [(.ex 2, []), (.ret, [.reg 4 .t_bool [none]])], []⟩), ([0, 1, 0, 1, 1, 1, 1], ⟨[2, 3], [.reg 7 .t_i64 [none]], [(.ex 4, []), (.ret, [.reg 4 .t_bool [none]])], []⟩)])]) mixed .nil .nil Tryz.func32 (by kernel_rfl) (by kernel_rfl)

def r20_Same (N : Nat) (x0 x1 : LiftState) : Option Bool :=
 
  (bif
          !(x0.Lift.ID == x1.Lift.ID &&
              (x0.Lift.Operator == x1.Lift.Operator &&
                (x0.Lift.From == x1.Lift.From &&
                  (x0.Lift.To == x1.Lift.To &&
                    (x0.Lift.Length == x1.Lift.Length &&
                      (x0.Lift.Speed == x1.Lift.Speed &&
                        (x0.Lift.Seats == x1.Lift.Seats && (x0.Lift.Spacing == x1.Lift.Spacing && true)))))))) then
        some true
      else
        bif
            !(x0.Motor.Max == x1.Motor.Max &&
                (x0.Motor.Up == x1.Motor.Up &&
                  (x0.Motor.Down == x1.Motor.Down && (x0.Motor.Stop == x1.Motor.Stop && true)))) then
          some true
        else
          bif
              !(x0.Drive.State == x1.Drive.State &&
                  (x0.Drive.Speed == x1.Drive.Speed &&
                    (x0.Drive.Target == x1.Drive.Target && (x0.Drive.Moved == x1.Drive.Moved && true)))) then
            some true
          else
            bif
                !(x0.Wind.On == x1.Wind.On &&
                    (x0.Wind.Off == x1.Wind.Off &&
                      (x0.Wind.Hold == x1.Wind.Hold &&
                        (x0.Wind.Active == x1.Wind.Active && (x0.Wind.Low == x1.Wind.Low && true))))) then
              some true
            else
              bif x0.Time != x1.Time then some true
              else
                bif x0.Mode != x1.Mode then some true
                else bif x0.Up != x1.Up then some true else some (x0.Off != x1.Off)).bind
    fun (r2 : Bool) =>
    bif r2 then some false
    else
      (bif x0.Chain.Key != x1.Chain.Key then some true
          else
            bif x0.Line.Loop != x1.Line.Loop then some true
            else
              bif x0.Line.Spacing != x1.Line.Spacing then some true
              else
                bif x0.Line.Offset != x1.Line.Offset then some true
                else
                  bif x0.Queue.Singles != x1.Queue.Singles then some true
                  else some (x0.Checks.Every != x1.Checks.Every)).bind
        fun (r3 : Bool) =>
        bif r3 then some false
        else
          ((r20_ints N x0.Line.Load x1.Line.Load).bind fun (r4 : Bool) =>
                bif !r4 then some true
                else
                  (r20_ints N x0.Queue.Groups x1.Queue.Groups).bind fun (r5 : Bool) =>
                    bif !r5 then some true
                    else (r20_ints N x0.Checks.Items x1.Checks.Items).bind fun (r6 : Bool) => some !r6).bind
            fun (r7 : Bool) => bif r7 then some false else (r20_lists N x0 x1).bind fun (r8 : Bool) => some r8
theorem d_r20_Same (N : Nat) : DenF Tryz.prog 10 ⟨[.t_LiftState, .t_LiftState], [.t_bool], [[none]], r20_Same N⟩ :=
  den_of (N := N) (gam := [(31, ⟨[.l_i64, .l_i64], [.t_bool], [[none]], r20_ints N⟩), (32, ⟨[.t_LiftState, .t_LiftState], [.t_bool], [[none]], r20_lists N⟩)]) (txt := []) (hints := [(10, [([0, 0, 1], ⟨[2, 3], [], [(.nrm, [.reg 58 .t_bool [none]])], []⟩), ([0, 0, 1, 1], ⟨[2, 3], [], [(.nrm, [.reg 110 .t_bool [none]])], []⟩), ([0, 0, 1, 1, 1], ⟨[2, 3], [], [(.nrm, [.reg 138 .t_bool [none]])], []⟩)])]) mixed (.cons (d_r20_ints N) (.cons (d_r20_lists N) .nil)) .nil Tryz.func10 (by kernel_rfl) (by kernel_rfl)

def l20_LiftNews (N : Nat) (x0 : Make) : Option Bool :=
 
  (l20_alive N).bind fun (r1 : Bool) =>
    bif !r1 then some false
    else
      (l20_small N x0).bind fun (r2 : Bool) =>
        bif !r2 then some true
        else
          (l20_made N x0).bind fun (r3 : LiftState × Int) =>
            (r20_New N x0.Lift x0.Motor x0.Brakes x0.Chain x0.Wind x0.Checks).bind fun (r4 : LiftState × Int) =>
              (bif r3.snd == r4.snd then
                    (r20_Same N r3.fst r4.fst).bind fun (r5 : Bool) =>
                      bif r5 then
                        bif r3.snd != (0 : Int) then some true
                        else (lift_Right N r3.fst).bind fun (r6 : Bool) => some r6
                      else some false
                  else some false).bind
                fun (r7 : Bool) => some r7
theorem d_l20_LiftNews (N : Nat) : DenF Tryz.prog 3 ⟨[.t_Make], [.t_bool], [[none]], l20_LiftNews N⟩ :=
  den_of (N := N) (gam := [(6, ⟨[], [.t_bool], [[none]], l20_alive N⟩), (7, ⟨[.t_Make], [.t_bool], [[none]], l20_small N⟩), (8, ⟨[.t_Make], [.t_LiftState, .t_i64], [[none, none, none, none, none, none, none, none, none, none, none, none, none, none, none, none, some 89, some 92, none, none, none, none, none, none, none, none, none, some 3, some 3, none, some 3, none, some 97, none, none, none, none], [none]], l20_made N⟩), (9, ⟨[.t_Lift, .t_Motor, .l_Brake, .t_Chain, .t_Alarm, .t_Checklist], [.t_LiftState, .t_i64], [[none, none, none, none, none, none, none, none, none, none, none, none, none, none, none, none, none, none, none, none, none, none, none, none, none, none, none, none, none, none, none, none, none, none, none, none, none], [none]], r20_New N⟩), (10, ⟨[.t_LiftState, .t_LiftState], [.t_bool], [[none]], r20_Same N⟩), (11, ⟨[.t_LiftState], [.t_bool], [[none]], lift_Right N⟩)]) (txt := []) (hints := [(3, [([0, 1, 1, 1, 1, 1], ⟨[], [], [(.nrm, [.reg 2 .t_bool [none]])], []⟩)])]) mixed (.cons (d_l20_alive N) (.cons (d_l20_small N) (.cons (d_l20_made N) (.cons (d_r20_New N) (.cons (d_r20_Same N) (.cons (d_lift_Right N) .nil)))))) .nil Tryz.func3 (by kernel_rfl) (by kernel_rfl)

def l20_compact (N : Nat) (x0 : LiftState) : Option Bool :=
 
  (bif decide ((↑x0.Line.Load.length : Int) ≤ (300 : Int)) then
        bif decide ((↑x0.Queue.Groups.length : Int) ≤ (300 : Int)) then
          (l20_small N (Make.mk z_Lift z_Motor x0.Brakes x0.Chain z_Alarm x0.Checks)).bind fun (r1 : Bool) => some r1
        else some false
      else some false).bind
    fun (r2 : Bool) => some r2
theorem d_l20_compact (N : Nat) : DenF Tryz.prog 12 ⟨[.t_LiftState], [.t_bool], [[none]], l20_compact N⟩ :=
  den_of (N := N) (gam := [(7, ⟨[.t_Make], [.t_bool], [[none]], l20_small N⟩)]) (txt := []) (hints := [(12, [([0, 1], ⟨[], [], [(.nrm, [.reg 2 .t_bool [none]])], []⟩)])]) mixed (.cons (d_l20_small N) .nil) .nil Tryz.func12 (by kernel_rfl) (by kernel_rfl)

def r14_Valid (N : Nat) (x0 : Motor) (x1 : Drive) : Option Bool :=
 
  (bif decide (x1.State < (0 : Int)) then some true
      else
        bif decide (x1.State > (3 : Int)) then some true
        else
          bif decide (x1.Speed < (0 : Int)) then some true
          else
            bif decide (x1.Speed > x0.Max) then some true
            else
              bif decide (x1.Moved < (0 : Int)) then some true
              else some (decide (x1.Moved > (1125899906842624 : Int)))).bind
    fun (r2 : Bool) =>
    bif r2 then some false
    else
      (bif x1.State == (0 : Int) then some (x1.Speed != (0 : Int)) else some false).bind fun (r3 : Bool) =>
        bif r3 then some false
        else
          bif x1.State == (1 : Int) then
            (bif decide (x1.Target ≥ (1 : Int)) then some (decide (x1.Target ≤ x0.Max)) else some false).bind
              fun (r4 : Bool) => some r4
          else some (x1.Target == (0 : Int))
theorem d_r14_Valid (N : Nat) : DenF Tryz.prog 42 ⟨[.t_Motor, .t_Drive], [.t_bool], [[none]], r14_Valid N⟩ :=
  den_of (N := N) (gam := []) (txt := []) (hints := [(42, [([0, 0, 1], ⟨[2, 3], [], [(.nrm, [.reg 34 .t_bool [none]])], []⟩), ([0, 0, 1, 1], ⟨[2, 3], [], [(.nrm, [.reg 42 .t_bool [none]])], []⟩), ([0, 0, 1, 0, 1, 1, 1], ⟨[], [], [(.nrm, [.reg 4 .t_bool [none]])], []⟩)])]) mixed .nil .nil Tryz.func42 (by kernel_rfl) (by kernel_rfl)

def r17_At (N : Nat) (x0 : Line) (x1 : Int) : Option Int :=
 
  (bif decide (x1 < (0 : Int)) then some true else some (decide (x1 ≥ (↑x0.Load.length : Int)))).bind fun (r2 : Bool) =>
    bif r2 then some (-1 : Int)
    else
      bif x0.Loop != (0 : Int) then
        some ((IntKind.i64.wrap (x0.Offset + IntKind.i64.wrap (x1 * x0.Spacing))).tmod x0.Loop)
      else none
theorem d_r17_At (N : Nat) : DenF Tryz.prog 76 ⟨[.t_Line, .t_i64], [.t_i64], [[none]], r17_At N⟩ :=
  den_of (N := N) (gam := []) (txt := []) (hints := [(76, [([0, 0, 1], ⟨[1, 2], [], [(.nrm, [.reg 13 .t_bool [none]])], []⟩)])]) mixed .nil .nil Tryz.func76 (by kernel_rfl) (by kernel_rfl)

def r17_Right (N : Nat) (x0 : Line) (x1 : Int) : Option Bool :=
 
  (bif decide (x0.Spacing < (5000 : Int)) then some true
      else
        bif decide (x0.Spacing > (1000000 : Int)) then some true
        else
          bif decide ((↑x0.Load.length : Int) < (1 : Int)) then some true
          else
            bif decide ((↑x0.Load.length : Int) > (200 : Int)) then some true
            else
              bif x0.Loop != IntKind.i64.wrap (x0.Spacing * (↑x0.Load.length : Int)) then some true
              else
                bif x0.Loop.tmod (2 : Int) != (0 : Int) then some true
                else bif decide (x0.Offset < (0 : Int)) then some true else some (decide (x0.Offset ≥ x0.Loop))).bind
    fun (r2 : Bool) =>
    bif r2 then some false
    else
      (whileF N
            (fun (p3 : Int) =>
              bif decide (p3 < (↑x0.Load.length : Int)) then
                (bif decide ((0 : Int) ≤ p3) && decide (p3 < (↑x0.Load.length : Int)) then
                      bif decide (x0.Load.getD p3.toNat (0 : Int) < (0 : Int)) then some true
                      else
                        bif decide ((0 : Int) ≤ p3) && decide (p3 < (↑x0.Load.length : Int)) then
                          bif decide (x0.Load.getD p3.toNat (0 : Int) > x1) then some true
                          else
                            (r17_At N x0 p3).bind fun (r4 : Int) =>
                              bif decide (r4 ≥ IntKind.i64.wrap (x0.Loop.tdiv (2 : Int))) then
                                bif decide ((0 : Int) ≤ p3) && decide (p3 < (↑x0.Load.length : Int)) then
                                  some (x0.Load.getD p3.toNat (0 : Int) != (0 : Int))
                                else none
                              else some false
                        else none
                    else none).bind
                  fun (r5 : Bool) =>
                  bif r5 then some (Sum.inr (Sum.inr false)) else some (Sum.inl (IntKind.i64.wrap (p3 + (1 : Int))))
              else some (Sum.inr (Sum.inl ())))
            (0 : Int)).bind
        fun (r6 : Unit ⊕ Bool) => Sum.elim (fun (p7 : Unit) => some true) (fun (p8 : Bool) => some p8) r6
theorem d_r17_Right (N : Nat) : DenF Tryz.prog 43 ⟨[.t_Line, .t_i64], [.t_bool], [[none]], r17_Right N⟩ :=
  den_of (N := N) (gam := [(76, ⟨[.t_Line, .t_i64], [.t_i64], [[none]], r17_At N⟩)]) (txt := []) (hints := [(43, [([0, 0, 1], ⟨[1, 2], [], [(.nrm, [.reg 54 .t_bool [none]])], []⟩), ([0, 1, 0, 1, 1], ⟨[1, 2], [.reg 5 .t_i64 [none]], [(.ex 0, []), (.ret, [.reg 4 .t_bool [none]])], []⟩), ([0, 0, 0, 1, 0, 0, 1, 0, 1, 1], ⟨[1, 2, 5], [], [(.nrm, [.reg 93 .t_bool [none]])], []⟩)])]) mixed (.cons (d_r17_At N) .nil) .nil Tryz.func43 (by kernel_rfl) (by kernel_rfl)

def r18_Right (N : Nat) (x0 : Queue) : Option Bool :=
 
  (bif decide ((↑x0.Groups.length : Int) > (200 : Int)) then some true
      else bif decide (x0.Singles < (0 : Int)) then some true else some (decide (x0.Singles > (10000 : Int)))).bind
    fun (r1 : Bool) =>
    bif r1 then some false
    else
      (whileF N
            (fun (p2 : Int) =>
              bif decide (p2 < (↑x0.Groups.length : Int)) then
                (bif decide ((0 : Int) ≤ p2) && decide (p2 < (↑x0.Groups.length : Int)) then
                      bif decide (x0.Groups.getD p2.toNat (0 : Int) < (1 : Int)) then some true
                      else
                        bif decide ((0 : Int) ≤ p2) && decide (p2 < (↑x0.Groups.length : Int)) then
                          some (decide (x0.Groups.getD p2.toNat (0 : Int) > (16 : Int)))
                        else none
                    else none).bind
                  fun (r3 : Bool) =>
                  bif r3 then some (Sum.inr (Sum.inr false)) else some (Sum.inl (IntKind.i64.wrap (p2 + (1 : Int))))
              else some (Sum.inr (Sum.inl ())))
            (0 : Int)).bind
        fun (r4 : Unit ⊕ Bool) => Sum.elim (fun (p5 : Unit) => some true) (fun (p6 : Bool) => some p6) r4
theorem d_r18_Right (N : Nat) : DenF Tryz.prog 44 ⟨[.t_Queue], [.t_bool], [[none]], r18_Right N⟩ :=
  den_of (N := N) (gam := []) (txt := []) (hints := [(44, [([0, 0, 1], ⟨[1], [], [(.nrm, [.reg 17 .t_bool [none]])], []⟩), ([0, 1, 0, 1, 1], ⟨[1], [.reg 3 .t_i64 [none]], [(.ex 0, []), (.ret, [.reg 2 .t_bool [none]])], []⟩), ([0, 0, 0, 1, 0, 0, 1, 0, 1, 1], ⟨[1, 3], [], [(.nrm, [.reg 38 .t_bool [none]])], []⟩)])]) mixed .nil .nil Tryz.func44 (by kernel_rfl) (by kernel_rfl)

def r17_People (N : Nat) (x0 : Line) : Option Int :=
 
  (whileF N
        (fun (p1 : Int × Int) =>
          bif decide (p1.snd < (↑x0.Load.length : Int)) then
            bif decide ((0 : Int) ≤ p1.snd) && decide (p1.snd < (↑x0.Load.length : Int)) then
              some
                (Sum.inl
                  (IntKind.i64.wrap (p1.fst + x0.Load.getD (Int.toNat p1.snd) (0 : Int)),
                    IntKind.i64.wrap (p1.snd + (1 : Int))))
            else none
          else some (Sum.inr p1.fst))
        ((0 : Int), (0 : Int))).bind
    fun (r2 : Int) => some r2
theorem d_r17_People (N : Nat) : DenF Tryz.prog 45 ⟨[.t_Line], [.t_i64], [[none]], r17_People N⟩ :=
  den_of (N := N) (gam := []) (txt := []) (hints := [(45, [([0, 1, 0, 1, 1], ⟨[1], [.reg 3 .t_i64 [none], .reg 4 .t_i64 [none]], [(.ex 0, [.reg 3 .t_i64 [none]])], []⟩)])]) mixed .nil .nil Tryz.func45 (by kernel_rfl) (by kernel_rfl)

def r20_Right (N : Nat) (x0 : LiftState) : Option Bool :=
 
  (r17_New N x0.Lift).bind fun (r1 : Line × Int) =>
    (bif r1.snd != (0 : Int) then some true
        else
          bif x0.Line.Loop != r1.fst.Loop then some true
          else
            bif x0.Line.Spacing != r1.fst.Spacing then some true
            else some ((↑x0.Line.Load.length : Int) != (↑r1.fst.Load.length : Int))).bind
      fun (r2 : Bool) =>
      bif r2 then some false
      else
        (bif decide (x0.Time < (0 : Int)) then some true
            else
              bif decide (x0.Time > (20000000 : Int)) then some true
              else
                (r20_suits N x0.Lift x0.Motor x0.Wind x0.Time).bind fun (r3 : Bool) =>
                  bif !r3 then some true else (r14_Valid N x0.Motor x0.Drive).bind fun (r4 : Bool) => some !r4).bind
          fun (r5 : Bool) =>
          bif r5 then some false
          else
            ((r17_Right N x0.Line x0.Lift.Seats).bind fun (r6 : Bool) =>
                  bif !r6 then some true
                  else
                    (r18_Right N x0.Queue).bind fun (r7 : Bool) =>
                      bif !r7 then some true
                      else
                        (r15_Right N x0.Brakes).bind fun (r8 : Int) =>
                          bif r8 != (0 : Int) then some true
                          else
                            (r16_Right N x0.Chain).bind fun (r9 : Int) =>
                              bif r9 != (0 : Int) then some true
                              else (r19_Right N x0.Checks).bind fun (r10 : Int) => some (r10 != (0 : Int))).bind
              fun (r11 : Bool) =>
              bif r11 then some false
              else
                (bif decide (x0.Mode ≥ (0 : Int)) then
                      bif decide (x0.Mode ≤ (3 : Int)) then
                        bif decide (x0.Up ≥ (0 : Int)) then
                          bif decide (x0.Off ≥ (0 : Int)) then
                            bif decide (x0.Up ≤ (1125899906842624 : Int)) then
                              bif decide (x0.Off ≤ (1125899906842624 : Int)) then
                                (r17_People N x0.Line).bind fun (r12 : Int) =>
                                  some (IntKind.i64.wrap (x0.Up - x0.Off) == r12)
                              else some false
                            else some false
                          else some false
                        else some false
                      else some false
                    else some false).bind
                  fun (r13 : Bool) => some r13
theorem d_r20_Right (N : Nat) : DenF Tryz.prog 13 ⟨[.t_LiftState], [.t_bool], [[none]], r20_Right N⟩ :=
  den_of (N := N) (gam := [(26, ⟨[.t_Lift], [.t_Line, .t_i64], [[none, none, none, some 3], [none]], r17_New N⟩), (27, ⟨[.t_Lift, .t_Motor, .t_Alarm, .t_i64], [.t_bool], [[none]], r20_suits N⟩), (42, ⟨[.t_Motor, .t_Drive], [.t_bool], [[none]], r14_Valid N⟩), (43, ⟨[.t_Line, .t_i64], [.t_bool], [[none]], r17_Right N⟩), (44, ⟨[.t_Queue], [.t_bool], [[none]], r18_Right N⟩), (28, ⟨[.l_Brake], [.t_i64], [[none]], r15_Right N⟩), (29, ⟨[.t_Chain], [.t_i64], [[none]], r16_Right N⟩), (30, ⟨[.t_Checklist], [.t_i64], [[none]], r19_Right N⟩), (45, ⟨[.t_Line], [.t_i64], [[none]], r17_People N⟩)]) (txt := []) (hints := [(13, [([0, 0, 1, 1], ⟨[1], [], [(.nrm, [.reg 38 .t_bool [none]])], []⟩), ([0, 0, 1, 1, 1], ⟨[1], [], [(.nrm, [.reg 66 .t_bool [none]])], []⟩), ([0, 0, 1, 1, 1, 1], ⟨[1], [], [(.nrm, [.reg 97 .t_bool [none]])], []⟩), ([0, 1, 1, 1, 1, 1], ⟨[], [], [(.nrm, [.reg 2 .t_bool [none]])], []⟩)])]) mixed (.cons (d_r17_New N) (.cons (d_r20_suits N) (.cons (d_r14_Valid N) (.cons (d_r17_Right N) (.cons (d_r18_Right N) (.cons (d_r15_Right N) (.cons (d_r16_Right N) (.cons (d_r19_Right N) (.cons (d_r17_People N) .nil))))))))) .nil Tryz.func13 (by kernel_rfl) (by kernel_rfl)

def r16_Faults (N : Nat) (x0 : Chain) (x1 : Int) : Option ((List Int)) :=
 
  (whileF N
        (fun (p2 : List Int × Int) =>
          bif decide (p2.snd < (↑x0.Contacts.length : Int)) then
            bif decide ((0 : Int) ≤ p2.snd) && decide (p2.snd < (↑x0.Contacts.length : Int)) then
              (bif (x0.Contacts.getD (Int.toNat p2.snd) z_Contact).Latched then
                    some (decide (x1 ≥ (x0.Contacts.getD (Int.toNat p2.snd) z_Contact).Until))
                  else
                    bif !(x0.Contacts.getD (Int.toNat p2.snd) z_Contact).Closed then
                      some (decide (x1 ≥ (x0.Contacts.getD (Int.toNat p2.snd) z_Contact).Until))
                    else some false).bind
                fun (r3 : Bool) =>
                (bif r3 then
                      (some [(x0.Contacts.getD (Int.toNat p2.snd) z_Contact).ID]).bind fun (r4 : List Int) =>
                        bif decide ((List.length p2.fst + r4.length) * 8 ≤ 140737488355328) then
                          (some (p2.fst ++ r4)).bind fun (r5 : List Int) => some r5
                        else none
                    else some p2.fst).bind
                  fun (r6 : List Int) => some (Sum.inl (r6, IntKind.i64.wrap (p2.snd + (1 : Int))))
            else none
          else some (Sum.inr p2.fst))
        ([], (0 : Int))).bind
    fun (r7 : List Int) => some r7
theorem d_r16_Faults (N : Nat) : DenF Tryz.prog 49 ⟨[.t_Chain, .t_i64], [.l_i64], [[some 3]], r16_Faults N⟩ :=
  den_of (N := N) (gam := []) (txt := []) (hints := [(49, [([0, 1, 0, 1, 1], ⟨[1, 2], [.reg 5 .l_i64 [some 3], .reg 6 .t_i64 [none]], [(.ex 0, [.reg 5 .l_i64 [some 3]])], []⟩), ([0, 1, 0, 0, 1, 0, 0, 1, 0, 1, 1], ⟨[1, 2, 5, 6, 7], [], [(.nrm, [.reg 32 .t_bool [none]])], []⟩), ([1, 1, 0, 0, 1, 0, 0, 1, 0, 1, 1], ⟨[1, 2, 6], [], [(.nrm, [.reg 5 .l_i64 [some 3]])], []⟩)])]) mixed .nil .nil Tryz.func49 (by kernel_rfl) (by kernel_rfl)

def r20_Load (N : Nat) (x0 : LiftState) : Option Int :=
 
  (r17_People N x0.Line).bind fun (r1 : Int) =>
    some (IntKind.i64.wrap (IntKind.i64.wrap ((10 : Int) * x0.Lift.Length) + IntKind.i64.wrap ((100 : Int) * r1)))
theorem d_r20_Load (N : Nat) : DenF Tryz.prog 17 ⟨[.t_LiftState], [.t_i64], [[none]], r20_Load N⟩ :=
  den_of (N := N) (gam := [(45, ⟨[.t_Line], [.t_i64], [[none]], r17_People N⟩)]) (txt := []) (hints := []) mixed (.cons (d_r17_People N) .nil) .nil Tryz.func17 (by kernel_rfl) (by kernel_rfl)

def r15_nine (N : Nat) (x0 : Int) : Option Int :=
 
  bif decide (x0.tmod (10 : Int) > (0 : Int)) then
    some
      (IntKind.i64.wrap
        (IntKind.i64.wrap ((9 : Int) * IntKind.i64.wrap (x0.tdiv (10 : Int))) +
          IntKind.i64.wrap
            ((IntKind.i64.wrap (IntKind.i64.wrap ((9 : Int) * x0.tmod (10 : Int)) + (9 : Int))).tdiv (10 : Int))))
  else
    some
      (IntKind.i64.wrap
        (IntKind.i64.wrap ((9 : Int) * IntKind.i64.wrap (x0.tdiv (10 : Int))) +
          IntKind.i64.wrap ((IntKind.i64.wrap ((9 : Int) * x0.tmod (10 : Int))).tdiv (10 : Int))))
theorem d_r15_nine (N : Nat) : DenF Tryz.prog 147 ⟨[.t_i64], [.t_i64], [[none]], r15_nine N⟩ :=
  den_of (N := N) (gam := []) (txt := []) (hints := []) mixed .nil .nil Tryz.func147 (by kernel_rfl) (by kernel_rfl)
end Go.Proofs.YthjmbcnohgaihaaGreat
