/- Written by a program (gen.py, asm.py): what each function computes, as a plain function, and that its text computes it. No condition. -/
import Derived.Test.YthjmbcnohgaihaaGreatFn2
import Derived.Test.YthjmbcnohgaihaaGreatCmo
namespace Go.Proofs.YthjmbcnohgaihaaGreat
open Go.Cm Go.Proofs
set_option linter.unusedVariables false
set_option maxRecDepth 100000

def rope_position (N : Nat) (x0 : Line) (x1 : Int) : Option Int :=
 
  bif x0.Loop != (0 : Int) then some ((IntKind.i64.wrap (x0.Offset + IntKind.i64.wrap (x1 * x0.Spacing))).tmod x0.Loop)
  else none
theorem d_rope_position (N : Nat) : DenF Tryz.prog 71 ⟨[.t_Line, .t_i64], [.t_i64], [[none]], rope_position N⟩ :=
  den_of (N := N) (gam := []) (txt := []) (hints := []) mixed .nil .nil Tryz.func71 (by kernel_rfl) (by kernel_rfl)

def rope_Right (N : Nat) (x0 : Line) (x1 : Int) : Option Bool :=
 
  (bif decide (x0.Spacing < (5000 : Int)) then some true
      else
        bif decide (x0.Spacing > (1000000 : Int)) then some true
        else
          bif decide ((↑x0.Load.length : Int) < (1 : Int)) then some true
          else some (decide ((↑x0.Load.length : Int) > (200 : Int)))).bind
    fun (r2 : Bool) =>
    bif r2 then some false
    else
      (bif x0.Loop != IntKind.i64.wrap ((↑x0.Load.length : Int) * x0.Spacing) then some true
          else
            bif x0.Loop.tmod (2 : Int) != (0 : Int) then some true
            else bif decide (x0.Offset < (0 : Int)) then some true else some (decide (x0.Offset ≥ x0.Loop))).bind
        fun (r3 : Bool) =>
        bif r3 then some false
        else
          (whileF N
                (fun (p4 : Int) =>
                  bif decide (p4 < (↑x0.Load.length : Int)) then
                    bif decide ((0 : Int) ≤ p4) && decide (p4 < (↑x0.Load.length : Int)) then
                      (bif decide (x0.Load.getD p4.toNat (0 : Int) < (0 : Int)) then some true
                          else some (decide (x0.Load.getD p4.toNat (0 : Int) > x1))).bind
                        fun (r5 : Bool) =>
                        bif r5 then some (Sum.inr (Sum.inr false))
                        else
                          (bif x0.Load.getD p4.toNat (0 : Int) != (0 : Int) then
                                (rope_position N x0 p4).bind fun (r6 : Int) =>
                                  some (decide (r6 ≥ IntKind.i64.wrap (x0.Loop.tdiv (2 : Int))))
                              else some false).bind
                            fun (r7 : Bool) =>
                            bif r7 then some (Sum.inr (Sum.inr false))
                            else some (Sum.inl (IntKind.i64.wrap (p4 + (1 : Int))))
                    else none
                  else some (Sum.inr (Sum.inl ())))
                (0 : Int)).bind
            fun (r8 : Unit ⊕ Bool) => Sum.elim (fun (p9 : Unit) => some true) (fun (p10 : Bool) => some p10) r8
theorem d_rope_Right (N : Nat) : DenF Tryz.prog 36 ⟨[.t_Line, .t_i64], [.t_bool], [[none]], rope_Right N⟩ :=
  den_of (N := N) (gam := [(71, ⟨[.t_Line, .t_i64], [.t_i64], [[none]], rope_position N⟩)]) (txt := []) (hints := [(36, [([0, 0, 1, 1], ⟨[1, 2, 5], [], [(.nrm, [.reg 26 .t_bool [none]])], []⟩), ([0, 0, 1, 1, 1], ⟨[1, 2], [], [(.nrm, [.reg 51 .t_bool [none]])], []⟩), ([0, 1, 0, 1, 1, 1, 1], ⟨[1, 2, 53, 54], [.reg 55 .t_i64 [none]], [(.ex 0, []), (.ret, [.reg 4 .t_bool [none]])], []⟩), ([0, 0, 1, 0, 0, 1, 1, 0, 0, 1, 0, 1, 1, 1, 1], ⟨[1, 2, 6, 7, 53, 54, 55], [], [(.nrm, [.reg 66 .t_bool [none]])], []⟩), ([0, 1, 1, 0, 0, 1, 1, 0, 0, 1, 0, 1, 1, 1, 1], ⟨[1, 2, 53, 54, 55], [], [(.nrm, [.reg 77 .t_bool [none]])], []⟩)])]) mixed (.cons (d_rope_position N) .nil) .nil Tryz.func36 (by kernel_rfl) (by kernel_rfl)

def queue_Right (N : Nat) (x0 : Queue) : Option Bool :=
 
  (bif decide ((↑x0.Groups.length : Int) > (200 : Int)) then some true
      else bif decide (x0.Singles < (0 : Int)) then some true else some (decide (x0.Singles > (10000 : Int)))).bind
    fun (r1 : Bool) =>
    bif r1 then some false
    else
      (whileF N
            (fun (p2 : Int) =>
              bif decide (p2 < (↑x0.Groups.length : Int)) then
                bif decide ((0 : Int) ≤ p2) && decide (p2 < (↑x0.Groups.length : Int)) then
                  (bif decide (x0.Groups.getD p2.toNat (0 : Int) < (1 : Int)) then some true
                      else some (decide (x0.Groups.getD p2.toNat (0 : Int) > (16 : Int)))).bind
                    fun (r3 : Bool) =>
                    bif r3 then some (Sum.inr (Sum.inr false)) else some (Sum.inl (IntKind.i64.wrap (p2 + (1 : Int))))
                else none
              else some (Sum.inr (Sum.inl ())))
            (0 : Int)).bind
        fun (r4 : Unit ⊕ Bool) => Sum.elim (fun (p5 : Unit) => some true) (fun (p6 : Bool) => some p6) r4
theorem d_queue_Right (N : Nat) : DenF Tryz.prog 37 ⟨[.t_Queue], [.t_bool], [[none]], queue_Right N⟩ :=
  den_of (N := N) (gam := []) (txt := []) (hints := [(37, [([0, 0, 1], ⟨[1], [], [(.nrm, [.reg 18 .t_bool [none]])], []⟩), ([0, 1, 0, 1, 1], ⟨[20, 21], [.reg 22 .t_i64 [none]], [(.ex 0, []), (.ret, [.reg 2 .t_bool [none]])], []⟩), ([0, 1, 0, 0, 1, 1, 0, 0, 1, 0, 1, 1], ⟨[20, 21, 22], [], [(.nrm, [.reg 31 .t_bool [none]])], []⟩)])]) mixed .nil .nil Tryz.func37 (by kernel_rfl) (by kernel_rfl)

def lift_Right (N : Nat) (x0 : LiftState) : Option Bool :=
 
  (rope_New N x0.Lift).bind fun (r1 : Line × Int) =>
    (bif r1.snd != (0 : Int) then some true
        else
          bif x0.Line.Loop != r1.fst.Loop then some true
          else
            bif x0.Line.Spacing != r1.fst.Spacing then some true
            else some ((↑x0.Line.Load.length : Int) != (↑r1.fst.Load.length : Int))).bind
      fun (r2 : Bool) =>
      bif r2 then some false
      else
        (bif decide (x0.Time < (0 : Int)) then some true
            else
              bif decide (x0.Time > (20000000 : Int)) then some true
              else (lift_fits N x0.Lift x0.Motor x0.Wind x0.Time).bind fun (r3 : Bool) => some !r3).bind
          fun (r4 : Bool) =>
          bif r4 then some false
          else
            ((drive_Valid N x0.Motor x0.Drive).bind fun (r5 : Bool) =>
                  bif !r5 then some true
                  else
                    (rope_Right N x0.Line x0.Lift.Seats).bind fun (r6 : Bool) =>
                      bif !r6 then some true else (queue_Right N x0.Queue).bind fun (r7 : Bool) => some !r7).bind
              fun (r8 : Bool) =>
              bif r8 then some false
              else
                ((brake_Right N x0.Brakes).bind fun (r9 : Int) =>
                      bif r9 != (0 : Int) then some true
                      else
                        (chain_Right N x0.Chain).bind fun (r10 : Int) =>
                          bif r10 != (0 : Int) then some true
                          else (inspect_Right N x0.Checks).bind fun (r11 : Int) => some (r11 != (0 : Int))).bind
                  fun (r12 : Bool) =>
                  bif r12 then some false
                  else
                    (bif decide (x0.Mode < (0 : Int)) then some true else some (decide (x0.Mode > (3 : Int)))).bind
                      fun (r13 : Bool) =>
                      bif r13 then some false
                      else
                        (bif decide (x0.Up < (0 : Int)) then some true
                            else
                              bif decide (x0.Up > (1125899906842624 : Int)) then some true
                              else
                                bif decide (x0.Off < (0 : Int)) then some true
                                else some (decide (x0.Off > (1125899906842624 : Int)))).bind
                          fun (r14 : Bool) =>
                          bif r14 then some false
                          else
                            (rope_People N x0.Line).bind fun (r15 : Int) =>
                              some (IntKind.i64.wrap (x0.Up - x0.Off) == r15)
theorem d_lift_Right (N : Nat) : DenF Tryz.prog 11 ⟨[.t_LiftState], [.t_bool], [[none]], lift_Right N⟩ :=
  den_of (N := N) (gam := [(33, ⟨[.t_Lift], [.t_Line, .t_i64], [[none, none, none, some 3], [none]], rope_New N⟩), (34, ⟨[.t_Lift, .t_Motor, .t_Alarm, .t_i64], [.t_bool], [[none]], lift_fits N⟩), (35, ⟨[.t_Motor, .t_Drive], [.t_bool], [[none]], drive_Valid N⟩), (36, ⟨[.t_Line, .t_i64], [.t_bool], [[none]], rope_Right N⟩), (37, ⟨[.t_Queue], [.t_bool], [[none]], queue_Right N⟩), (38, ⟨[.l_Brake], [.t_i64], [[none]], brake_Right N⟩), (39, ⟨[.t_Chain], [.t_i64], [[none]], chain_Right N⟩), (40, ⟨[.t_Checklist], [.t_i64], [[none]], inspect_Right N⟩), (41, ⟨[.t_Line], [.t_i64], [[none]], rope_People N⟩)]) (txt := []) (hints := [(11, [([0, 0, 1, 1], ⟨[1], [], [(.nrm, [.reg 38 .t_bool [none]])], []⟩), ([0, 0, 1, 1, 1], ⟨[1], [], [(.nrm, [.reg 58 .t_bool [none]])], []⟩), ([0, 0, 1, 1, 1, 1], ⟨[1], [], [(.nrm, [.reg 79 .t_bool [none]])], []⟩), ([0, 0, 1, 1, 1, 1, 1], ⟨[1], [], [(.nrm, [.reg 95 .t_bool [none]])], []⟩), ([0, 0, 1, 1, 1, 1, 1, 1], ⟨[1], [], [(.nrm, [.reg 103 .t_bool [none]])], []⟩), ([0, 0, 1, 1, 1, 1, 1, 1, 1], ⟨[1], [], [(.nrm, [.reg 121 .t_bool [none]])], []⟩)])]) mixed (.cons (d_rope_New N) (.cons (d_lift_fits N) (.cons (d_drive_Valid N) (.cons (d_rope_Right N) (.cons (d_queue_Right N) (.cons (d_brake_Right N) (.cons (d_chain_Right N) (.cons (d_inspect_Right N) (.cons (d_rope_People N) .nil))))))))) .nil Tryz.func11 (by kernel_rfl) (by kernel_rfl)

def drive_next (N : Nat) (x0 : Motor) (x1 : Drive) : Option Int :=
 
  bif x1.State == (1 : Int) then
    bif decide (x1.Speed < x1.Target) then some (min (IntKind.i64.wrap (x1.Speed + x0.Up)) x1.Target)
    else some (max (IntKind.i64.wrap (x1.Speed - x0.Down)) x1.Target)
  else
    bif x1.State == (2 : Int) then some (max (IntKind.i64.wrap (x1.Speed - x0.Down)) (0 : Int))
    else bif x1.State == (3 : Int) then some (max (IntKind.i64.wrap (x1.Speed - x0.Stop)) (0 : Int)) else some x1.Speed
theorem d_drive_next (N : Nat) : DenF Tryz.prog 148 ⟨[.t_Motor, .t_Drive], [.t_i64], [[none]], drive_next N⟩ :=
  den_of (N := N) (gam := []) (txt := []) (hints := []) mixed .nil .nil Tryz.func148 (by kernel_rfl) (by kernel_rfl)

def drive_Step (N : Nat) (x0 : Motor) (x1 : Drive) (x2 : Int) : Option Drive :=
 
  (whileF N
        (fun (p3 : Int × Drive) =>
          bif decide (p3.fst < min (max x2 (0 : Int)) (3600 : Int)) then
            (drive_next N x0 p3.snd).bind fun (r4 : Int) =>
              (bif p3.snd.State == (2 : Int) then some (r4 == (0 : Int)) else some false).bind fun (r5 : Bool) =>
                (bif r5 then
                      some
                        (Drive.mk (0 : Int) r4 p3.snd.Target
                          ((IntKind.i64.wrap (p3.snd.Moved + r4)).tmod (1125899906842625 : Int)))
                    else
                      some
                        (Drive.mk p3.snd.State r4 p3.snd.Target
                          ((IntKind.i64.wrap (p3.snd.Moved + r4)).tmod (1125899906842625 : Int)))).bind
                  fun (r6 : Drive) => some (Sum.inl (IntKind.i64.wrap (p3.fst + (1 : Int)), r6))
          else some (Sum.inr p3.snd))
        ((0 : Int), x1)).bind
    fun (r7 : Drive) => some r7
theorem d_drive_Step (N : Nat) : DenF Tryz.prog 122 ⟨[.t_Motor, .t_Drive, .t_i64], [.t_Drive], [[none, none, none, none]], drive_Step N⟩ :=
  den_of (N := N) (gam := [(148, ⟨[.t_Motor, .t_Drive], [.t_i64], [[none]], drive_next N⟩)]) (txt := []) (hints := [(122, [([0, 1, 0, 1], ⟨[3, 4, 6, 9], [.reg 10 .t_i64 [none], .var 4 .t_Drive [none, none, none, none]], [(.ex 0, [.var 4 .t_Drive [none, none, none, none]])], []⟩), ([0, 1, 1, 0, 0, 1, 1, 0, 0, 1, 0, 1], ⟨[3, 4, 6, 9, 10], [], [(.nrm, [.reg 30 .t_bool [none]])], []⟩), ([1, 1, 1, 0, 0, 1, 1, 0, 0, 1, 0, 1], ⟨[3, 4, 6, 9, 10], [], [(.nrm, [.var 4 .t_Drive [none, none, none, none]])], []⟩)])]) mixed (.cons (d_drive_next N) .nil) .nil Tryz.func122 (by kernel_rfl) (by kernel_rfl)

def rope_Move (N : Nat) (x0 : Line) (x1 : Int) : Option (Line × Int × Int × Int) :=
 
  (bif decide (x1 < (0 : Int)) then some true else some (decide (x1 > x0.Spacing))).bind fun (r2 : Bool) =>
    bif r2 then some (z_Line, (0 : Int), (0 : Int), (2 : Int))
    else
      (sl_Clone_int N x0.Load).bind fun (r3 : List Int) =>
        (whileF N
              (fun (p4 : Int × Int × Int × List Int) =>
                bif decide (p4.snd.snd.fst < (↑r3.length : Int)) then
                  (rope_position N x0 p4.snd.snd.fst).bind fun (r5 : Int) =>
                    (bif decide (r5 < IntKind.i64.wrap (x0.Loop.tdiv (2 : Int))) then
                          some (decide (IntKind.i64.wrap (r5 + x1) ≥ IntKind.i64.wrap (x0.Loop.tdiv (2 : Int))))
                        else some false).bind
                      fun (r6 : Bool) =>
                      (bif r6 then
                            bif
                                decide ((0 : Int) ≤ p4.snd.snd.fst) &&
                                  decide (p4.snd.snd.fst < (↑(List.length p4.snd.snd.snd) : Int)) then
                              bif
                                  decide ((0 : Int) ≤ p4.snd.snd.fst) &&
                                    decide (p4.snd.snd.fst < (↑(List.length p4.snd.snd.snd) : Int)) then
                                (some (List.set p4.snd.snd.snd (Int.toNat p4.snd.snd.fst) (0 : Int))).bind
                                  fun (r7 : List Int) =>
                                  some
                                    (IntKind.i64.wrap
                                        (p4.snd.fst + List.getD p4.snd.snd.snd (Int.toNat p4.snd.snd.fst) (0 : Int)),
                                      r7)
                              else none
                            else none
                          else some (p4.snd.fst, p4.snd.snd.snd)).bind
                        fun (r8 : Int × List Int) =>
                        (bif decide (IntKind.i64.wrap (r5 + x1) ≥ x0.Loop) then some p4.snd.snd.fst
                            else some p4.fst).bind
                          fun (r9 : Int) =>
                          some (Sum.inl (r9, r8.fst, IntKind.i64.wrap (p4.snd.snd.fst + (1 : Int)), r8.snd))
                else some (Sum.inr (p4.fst, p4.snd.fst, p4.snd.snd.snd)))
              ((-1 : Int), (0 : Int), (0 : Int), r3)).bind
          fun (r10 : Int × Int × List Int) =>
          bif x0.Loop != (0 : Int) then
            some
              (Line.mk x0.Loop x0.Spacing ((IntKind.i64.wrap (x0.Offset + x1)).tmod x0.Loop) r10.snd.snd, r10.fst,
                r10.snd.fst, (0 : Int))
          else none
theorem d_rope_Move (N : Nat) : DenF Tryz.prog 123 ⟨[.t_Line, .t_i64], [.t_Line, .t_i64, .t_i64, .t_i64], [[none, none, none, some 3], [none], [none], [none]], rope_Move N⟩ :=
  den_of (N := N) (gam := [(83, ⟨[.l_i64], [.l_i64], [[some 3]], sl_Clone_int N⟩), (71, ⟨[.t_Line, .t_i64], [.t_i64], [[none]], rope_position N⟩)]) (txt := []) (hints := [(123, [([0, 0, 1], ⟨[1, 2, 4], [], [(.nrm, [.reg 21 .t_bool [none]])], []⟩), ([0, 1, 0, 1, 1, 1, 1, 1], ⟨[1, 2, 4, 8, 11, 30], [.reg 9 .t_i64 [none], .reg 10 .t_i64 [none], .reg 31 .t_i64 [none], .rowr 11 .l_i64], [(.ex 0, [.reg 9 .t_i64 [none], .reg 10 .t_i64 [none], .rowr 11 .l_i64])], []⟩), ([0, 0, 1, 1, 0, 0, 1, 1, 0, 0, 1, 0, 1, 1, 1, 1, 1], ⟨[1, 2, 4, 8, 9, 10, 11, 12, 13, 30, 31], [], [(.nrm, [.reg 46 .t_bool [none]])], []⟩), ([1, 0, 1, 1, 0, 0, 1, 1, 0, 0, 1, 0, 1, 1, 1, 1, 1], ⟨[1, 2, 4, 8, 9, 11, 12, 13, 30, 31], [], [(.nrm, [.reg 10 .t_i64 [none], .rowr 11 .l_i64])], []⟩), ([1, 1, 1, 1, 0, 0, 1, 1, 0, 0, 1, 0, 1, 1, 1, 1, 1], ⟨[1, 2, 4, 8, 10, 11, 30, 31], [], [(.nrm, [.reg 9 .t_i64 [none]])], []⟩)])]) mixed (.cons (d_sl_Clone_int N) (.cons (d_rope_position N) .nil)) .nil Tryz.func123 (by kernel_rfl) (by kernel_rfl)

def queue_clone (N : Nat) (x0 : List Int) : Option ((List Int)) :=
 
  bif
      true &&
        (decide ((↑x0.length : Int) ≤ (↑x0.length : Int)) &&
          decide ((↑x0.length : Int) * (8 : Int) ≤ (140737488355328 : Int))) then
    (some (List.replicate (↑x0.length : Int).toNat (0 : Int))).bind fun (r1 : List Int) =>
      bif decide (r1.length = x0.length) then some x0 else none
  else none
theorem d_queue_clone (N : Nat) : DenF Tryz.prog 153 ⟨[.l_i64], [.l_i64], [[some 3]], queue_clone N⟩ :=
  den_of (N := N) (gam := []) (txt := []) (hints := []) mixed .nil .nil Tryz.func153 (by kernel_rfl) (by kernel_rfl)

def queue_Seat (N : Nat) (x0 : Queue) (x1 : Int) : Option (Queue × Int × Int) :=
 
  (bif decide (x1 < (1 : Int)) then some true else some (decide (x1 > (16 : Int)))).bind fun (r2 : Bool) =>
    bif r2 then some (z_Queue, (0 : Int), (2 : Int))
    else
      (queue_clone N x0.Groups).bind fun (r3 : List Int) =>
        (bif decide ((↑r3.length : Int) > (0 : Int)) then
              bif true && decide ((0 : Int) < (↑r3.length : Int)) then some (decide (r3.getD 0 (0 : Int) > x1))
              else none
            else some false).bind
          fun (r4 : Bool) =>
          bif r4 then
            bif true && decide ((0 : Int) < (↑r3.length : Int)) then
              bif true && decide ((0 : Int) < (↑r3.length : Int)) then
                (some (r3.set 0 (IntKind.i64.wrap (r3.getD 0 (0 : Int) - x1)))).bind
                  fun (r5 : List Int) => some (Queue.mk r5 x0.Singles, x1, (0 : Int))
              else none
            else none
          else
            (whileF N
                  (fun (p6 : List Int × Int) =>
                    (bif decide ((↑(List.length p6.fst) : Int) > (0 : Int)) then
                          bif true && decide ((0 : Int) < (↑(List.length p6.fst) : Int)) then
                            some (decide (List.getD p6.fst 0 (0 : Int) ≤ p6.snd))
                          else none
                        else some false).bind
                      fun (r7 : Bool) =>
                      bif r7 then
                        bif true && decide ((0 : Int) < (↑(List.length p6.fst) : Int)) then
                          bif true && decide ((1 : Int) ≤ (↑(List.length p6.fst) : Int)) then
                            some
                              (Sum.inl
                                (List.drop 1 p6.fst,
                                  IntKind.i64.wrap (p6.snd - List.getD p6.fst 0 (0 : Int))))
                          else none
                        else none
                      else some (Sum.inr p6))
                  (r3, x1)).bind
              fun (r8 : List Int × Int) =>
              some
                (Queue.mk r8.fst (IntKind.i64.wrap (x0.Singles - min r8.snd x0.Singles)),
                  IntKind.i64.wrap (x1 - IntKind.i64.wrap (r8.snd - min r8.snd x0.Singles)), (0 : Int))
theorem d_queue_Seat (N : Nat) : DenF Tryz.prog 149 ⟨[.t_Queue, .t_i64], [.t_Queue, .t_i64, .t_i64], [[none, none], [none], [none]], queue_Seat N⟩ :=
  den_of (N := N) (gam := [(153, ⟨[.l_i64], [.l_i64], [[some 3]], queue_clone N⟩)]) (txt := []) (hints := [(149, [([0, 0, 1], ⟨[1, 2, 4], [], [(.nrm, [.reg 15 .t_bool [none]])], []⟩), ([0, 0, 1, 1, 1], ⟨[1, 2, 4, 7], [], [(.nrm, [.reg 29 .t_bool [none]])], []⟩), ([0, 0, 1, 1, 1, 1, 1], ⟨[1, 2, 4], [.reg 7 .l_i64 [none], .reg 8 .t_i64 [none]], [(.ex 0, [.reg 7 .l_i64 [none], .reg 8 .t_i64 [none]])], []⟩), ([0, 0, 0, 0, 0, 1, 1, 1, 1, 1], ⟨[1, 2, 4, 7, 8], [], [(.nrm, [.reg 51 .t_bool [none]])], []⟩)])]) mixed (.cons (d_queue_clone N) .nil) .nil Tryz.func149 (by kernel_rfl) (by kernel_rfl)

def rope_exists (N : Nat) (x0 : Line) (x1 : Int) : Option Bool :=
 
  (bif decide (x1 ≥ (0 : Int)) then some (decide (x1 < (↑x0.Load.length : Int))) else some false).bind
    fun (r2 : Bool) => some r2
theorem d_rope_exists (N : Nat) : DenF Tryz.prog 159 ⟨[.t_Line, .t_i64], [.t_bool], [[none]], rope_exists N⟩ :=
  den_of (N := N) (gam := []) (txt := []) (hints := [(159, [([0, 1], ⟨[], [], [(.nrm, [.reg 4 .t_bool [none]])], []⟩)])]) mixed .nil .nil Tryz.func159 (by kernel_rfl) (by kernel_rfl)

def rope_Load (N : Nat) (x0 : Line) (x1 x2 x3 : Int) : Option (Line × Int) :=
 
  (rope_exists N x0 x1).bind fun (r4 : Bool) =>
    bif !r4 then some (z_Line, (8 : Int))
    else
      (rope_position N x0 x1).bind fun (r5 : Int) =>
        (bif decide (r5 ≥ x0.Spacing) then some true
            else
              bif decide (r5 ≥ IntKind.i64.wrap (x0.Loop.tdiv (2 : Int))) then some true
              else
                bif decide ((0 : Int) ≤ x1) && decide (x1 < (↑x0.Load.length : Int)) then
                  some (x0.Load.getD x1.toNat (0 : Int) != (0 : Int))
                else none).bind
          fun (r6 : Bool) =>
          bif r6 then some (z_Line, (10 : Int))
          else
            (bif decide (x2 < (0 : Int)) then some true
                else bif decide (x2 > x3) then some true else some (decide (x3 > (16 : Int)))).bind
              fun (r7 : Bool) =>
              bif r7 then some (z_Line, (2 : Int))
              else
                (sl_Clone_int N x0.Load).bind fun (r8 : List Int) =>
                  bif decide ((0 : Int) ≤ x1) && decide (x1 < (↑r8.length : Int)) then
                    (some (r8.set x1.toNat x2)).bind fun (r9 : List Int) =>
                      some (Line.mk x0.Loop x0.Spacing x0.Offset r9, (0 : Int))
                  else none
theorem d_rope_Load (N : Nat) : DenF Tryz.prog 150 ⟨[.t_Line, .t_i64, .t_i64, .t_i64], [.t_Line, .t_i64], [[none, none, none, some 3], [none]], rope_Load N⟩ :=
  den_of (N := N) (gam := [(159, ⟨[.t_Line, .t_i64], [.t_bool], [[none]], rope_exists N⟩), (71, ⟨[.t_Line, .t_i64], [.t_i64], [[none]], rope_position N⟩), (83, ⟨[.l_i64], [.l_i64], [[some 3]], sl_Clone_int N⟩)]) (txt := []) (hints := [(150, [([0, 1, 0, 1, 1], ⟨[1, 2, 3, 4, 8], [], [(.nrm, [.reg 37 .t_bool [none]])], []⟩), ([0, 0, 1, 1, 1], ⟨[1, 2, 4, 8], [], [(.nrm, [.reg 49 .t_bool [none]])], []⟩)])]) mixed (.cons (d_rope_exists N) (.cons (d_rope_position N) (.cons (d_sl_Clone_int N) .nil))) .nil Tryz.func150 (by kernel_rfl) (by kernel_rfl)

def chain_clone (N : Nat) (x0 : Chain) : Option Chain :=
  (sl_Clone_Contact N x0.Contacts).bind fun (r1 : List Contact) => some (Chain.mk r1 x0.Key)
theorem d_chain_clone (N : Nat) : DenF Tryz.prog 138 ⟨[.t_Chain], [.t_Chain], [[some 92, none]], chain_clone N⟩ :=
  den_of (N := N) (gam := [(82, ⟨[.l_Contact], [.l_Contact], [[some 92]], sl_Clone_Contact N⟩)]) (txt := []) (hints := []) mixed (.cons (d_sl_Clone_Contact N) .nil) .nil Tryz.func138 (by kernel_rfl) (by kernel_rfl)

def chain_Expire (N : Nat) (x0 : Chain) (x1 : Int) : Option Chain :=
 
  (chain_clone N x0).bind fun (r2 : Chain) =>
    (whileF N
          (fun (p3 : Int × List Contact) =>
            bif decide (p3.fst < (↑r2.Contacts.length : Int)) then
              bif decide ((0 : Int) ≤ p3.fst) && decide (p3.fst < (↑(List.length p3.snd) : Int)) then
                (bif decide ((List.getD p3.snd (Int.toNat p3.fst) z_Contact).Until ≤ x1) then
                      bif decide ((0 : Int) ≤ p3.fst) && decide (p3.fst < (↑(List.length p3.snd) : Int)) then
                        (some
                              (List.set p3.snd (Int.toNat p3.fst)
                                (Contact.mk (List.getD p3.snd (Int.toNat p3.fst) z_Contact).ID
                                  (List.getD p3.snd (Int.toNat p3.fst) z_Contact).Critical
                                  (List.getD p3.snd (Int.toNat p3.fst) z_Contact).Closed
                                  (List.getD p3.snd (Int.toNat p3.fst) z_Contact).Latched (0 : Int)))).bind
                          fun (r4 : List Contact) => some r4
                      else none
                    else some p3.snd).bind
                  fun (r5 : List Contact) => some (Sum.inl (IntKind.i64.wrap (p3.fst + (1 : Int)), r5))
              else none
            else some (Sum.inr p3.snd))
          ((0 : Int), r2.Contacts)).bind
      fun (r6 : List Contact) => some (Chain.mk r6 r2.Key)
theorem d_chain_Expire (N : Nat) : DenF Tryz.prog 90 ⟨[.t_Chain, .t_i64], [.t_Chain], [[some 92, none]], chain_Expire N⟩ :=
  den_of (N := N) (gam := [(138, ⟨[.t_Chain], [.t_Chain], [[some 92, none]], chain_clone N⟩)]) (txt := []) (hints := [(90, [([0, 1, 0, 1, 1], ⟨[1, 2, 4, 10], [.reg 11 .t_i64 [none], .rowc 2 0 .l_Contact], [(.ex 0, [.rowc 2 0 .l_Contact])], []⟩), ([1, 1, 0, 0, 1, 1, 0, 0, 1, 0, 1, 1], ⟨[1, 2, 4, 10, 11], [], [(.nrm, [.rowc 2 0 .l_Contact])], []⟩)])]) mixed (.cons (d_chain_clone N) .nil) .nil Tryz.func90 (by kernel_rfl) (by kernel_rfl)

def drive_Halt (N : Nat) (x0 : Motor) (x1 : Drive) : Option Drive :=
 
  (bif x1.State == (1 : Int) then some (Drive.mk (2 : Int) x1.Speed (0 : Int) x1.Moved) else some x1).bind
    fun (r2 : Drive) => some r2
theorem d_drive_Halt (N : Nat) : DenF Tryz.prog 91 ⟨[.t_Motor, .t_Drive], [.t_Drive], [[none, none, none, none]], drive_Halt N⟩ :=
  den_of (N := N) (gam := []) (txt := []) (hints := [(91, [([1, 0, 1], ⟨[3, 4], [], [(.nrm, [.var 3 .t_Drive [none, none, none, none]])], []⟩)])]) mixed .nil .nil Tryz.func91 (by kernel_rfl) (by kernel_rfl)
end Go.Proofs.YthjmbcnohgaihaaGreat
