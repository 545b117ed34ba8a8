/- Written by a program (gen.py, asm.py): what each function computes, as a plain function, and that its text computes it. No condition. -/
import Derived.Test.YthjmbcnohgaihaaGreatFn8
import Derived.Test.YthjmbcnohgaihaaGreatCmo
namespace Go.Proofs.YthjmbcnohgaihaaGreat
open Go.Cm Go.Proofs
set_option linter.unusedVariables false
set_option maxRecDepth 100000

def r14_Step (N : Nat) (x0 : Motor) (x1 : Drive) (x2 : Int) : Option Drive :=
 
  (whileF N
        (fun (p3 : Int × Drive) =>
          (bif decide (p3.fst < x2) then some (decide (p3.fst < (3600 : Int))) else some false).bind fun (r4 : Bool) =>
            bif r4 then
              (r14_speed N x0 p3.snd).bind fun (r5 : Int) =>
                (bif p3.snd.State == (2 : Int) then some (r5 == (0 : Int)) else some false).bind fun (r6 : Bool) =>
                  (bif r6 then
                        some
                          (Drive.mk (0 : Int) r5 p3.snd.Target
                            ((IntKind.i64.wrap (p3.snd.Moved + r5)).tmod (1125899906842625 : Int)))
                      else
                        some
                          (Drive.mk p3.snd.State r5 p3.snd.Target
                            ((IntKind.i64.wrap (p3.snd.Moved + r5)).tmod (1125899906842625 : Int)))).bind
                    fun (r7 : Drive) => some (Sum.inl (IntKind.i64.wrap (p3.fst + (1 : Int)), r7))
            else some (Sum.inr p3.snd))
        ((0 : Int), x1)).bind
    fun (r8 : Drive) => some r8
theorem d_r14_Step (N : Nat) : DenF Tryz.prog 154 ⟨[.t_Motor, .t_Drive, .t_i64], [.t_Drive], [[none, none, none, none]], r14_Step N⟩ :=
  den_of (N := N) (gam := [(160, ⟨[.t_Motor, .t_Drive], [.t_i64], [[none]], r14_speed N⟩)]) (txt := []) (hints := [(154, [([0, 1, 0, 1], ⟨[2, 3, 4, 6], [.reg 7 .t_i64 [none], .var 4 .t_Drive [none, none, none, none]], [(.ex 0, [.var 4 .t_Drive [none, none, none, none]])], []⟩), ([0, 0, 0, 0, 1, 0, 1], ⟨[2, 3, 4, 6, 7], [], [(.nrm, [.reg 14 .t_bool [none]])], []⟩), ([0, 1, 1, 0, 0, 1, 0, 0, 1, 0, 1], ⟨[2, 3, 4, 6, 7], [], [(.nrm, [.reg 35 .t_bool [none]])], []⟩), ([1, 1, 1, 0, 0, 1, 0, 0, 1, 0, 1], ⟨[2, 3, 4, 6, 7], [], [(.nrm, [.var 4 .t_Drive [none, none, none, none]])], []⟩)])]) mixed (.cons (d_r14_speed N) .nil) .nil Tryz.func154 (by kernel_rfl) (by kernel_rfl)

def r17_with (N : Nat) (x0 : Line) (x1 : List Int) : Option Line :=
  some (Line.mk x0.Loop x0.Spacing x0.Offset x1)
theorem d_r17_with (N : Nat) : DenF Tryz.prog 158 ⟨[.t_Line, .l_i64], [.t_Line], [[none, none, none, none]], r17_with N⟩ :=
  den_of (N := N) (gam := []) (txt := []) (hints := []) mixed .nil .nil Tryz.func158 (by kernel_rfl) (by kernel_rfl)

def r17_Move (N : Nat) (x0 : Line) (x1 : Int) : Option (Line × Int × Int × Int) :=
 
  (bif decide (x1 < (0 : Int)) then some true else some (decide (x1 > x0.Spacing))).bind fun (r2 : Bool) =>
    bif r2 then some (z_Line, (0 : Int), (0 : Int), (2 : Int))
    else
      (whileF N
            (fun (p3 : List Int × Int × Int × Int) =>
              bif decide (p3.snd.snd.snd < (↑x0.Load.length : Int)) then
                (r17_At N x0 p3.snd.snd.snd).bind fun (r4 : Int) =>
                  bif decide ((0 : Int) ≤ p3.snd.snd.snd) && decide (p3.snd.snd.snd < (↑x0.Load.length : Int)) then
                    (bif decide (r4 < IntKind.i64.wrap (x0.Loop.tdiv (2 : Int))) then
                          some (decide (IntKind.i64.wrap (r4 + x1) ≥ IntKind.i64.wrap (x0.Loop.tdiv (2 : Int))))
                        else some false).bind
                      fun (r5 : Bool) =>
                      (bif r5 then
                            some
                              (IntKind.i64.wrap (p3.snd.snd.fst + x0.Load.getD (Int.toNat p3.snd.snd.snd) (0 : Int)),
                                (0 : Int))
                          else some (p3.snd.snd.fst, x0.Load.getD (Int.toNat p3.snd.snd.snd) (0 : Int))).bind
                        fun (r6 : Int × Int) =>
                        (bif decide (IntKind.i64.wrap (r4 + x1) ≥ x0.Loop) then some p3.snd.snd.snd
                            else some p3.snd.fst).bind
                          fun (r7 : Int) =>
                          (some [r6.snd]).bind fun (r8 : List Int) =>
                            bif decide ((List.length p3.fst + r8.length) * 8 ≤ 140737488355328) then
                              (some (p3.fst ++ r8)).bind fun (r9 : List Int) =>
                                some (Sum.inl (r9, r7, r6.fst, IntKind.i64.wrap (p3.snd.snd.snd + (1 : Int))))
                            else none
                  else none
              else some (Sum.inr (p3.fst, p3.snd.fst, p3.snd.snd.fst)))
            ([], (-1 : Int), (0 : Int), (0 : Int))).bind
        fun (r10 : List Int × Int × Int) =>
        (r17_with N x0 r10.fst).bind fun (r11 : Line) =>
          bif x0.Loop != (0 : Int) then
            some
              (Line.mk r11.Loop r11.Spacing ((IntKind.i64.wrap (x0.Offset + x1)).tmod x0.Loop) r11.Load, r10.snd.fst,
                r10.snd.snd, (0 : Int))
          else none
theorem d_r17_Move (N : Nat) : DenF Tryz.prog 155 ⟨[.t_Line, .t_i64], [.t_Line, .t_i64, .t_i64, .t_i64], [[none, none, none, none], [none], [none], [none]], r17_Move N⟩ :=
  den_of (N := N) (gam := [(76, ⟨[.t_Line, .t_i64], [.t_i64], [[none]], r17_At N⟩), (158, ⟨[.t_Line, .l_i64], [.t_Line], [[none, none, none, none]], r17_with N⟩)]) (txt := []) (hints := [(155, [([0, 0, 1], ⟨[1, 2, 4], [], [(.nrm, [.reg 22 .t_bool [none]])], []⟩), ([0, 1, 0, 1, 1, 1, 1], ⟨[1, 2, 4], [.reg 8 .l_i64 [some 3], .reg 9 .t_i64 [none], .reg 10 .t_i64 [none], .reg 11 .t_i64 [none]], [(.ex 0, [.reg 8 .l_i64 [some 3], .reg 9 .t_i64 [none], .reg 10 .t_i64 [none]])], []⟩), ([0, 0, 1, 1, 0, 0, 1, 0, 0, 1, 0, 1, 1, 1, 1], ⟨[1, 2, 4, 8, 9, 10, 11, 12, 13], [], [(.nrm, [.reg 52 .t_bool [none]])], []⟩), ([1, 0, 1, 1, 0, 0, 1, 0, 0, 1, 0, 1, 1, 1, 1], ⟨[1, 2, 4, 8, 9, 11, 12], [], [(.nrm, [.reg 10 .t_i64 [none], .reg 13 .t_i64 [none]])], []⟩), ([1, 0, 1, 1, 1, 0, 0, 1, 0, 0, 1, 0, 1, 1, 1, 1], ⟨[1, 2, 4, 8, 10, 11, 13], [], [(.nrm, [.reg 9 .t_i64 [none]])], []⟩)])]) mixed (.cons (d_r17_At N) (.cons (d_r17_with N) .nil)) .nil Tryz.func155 (by kernel_rfl) (by kernel_rfl)

def r18_own (N : Nat) (x0 : Queue) : Option Queue :=
 
  bif decide ((0 + x0.Groups.length) * 8 ≤ 140737488355328) then some x0 else none
theorem d_r18_own (N : Nat) : DenF Tryz.prog 141 ⟨[.t_Queue], [.t_Queue], [[some 3, none]], r18_own N⟩ :=
  den_of (N := N) (gam := []) (txt := []) (hints := []) mixed .nil .nil Tryz.func141 (by kernel_rfl) (by kernel_rfl)

def r18_Seat (N : Nat) (x0 : Queue) (x1 : Int) : Option (Queue × Int × Int) :=
 
  (bif decide (x1 < (1 : Int)) then some true else some (decide (x1 > (16 : Int)))).bind fun (r2 : Bool) =>
    bif r2 then some (z_Queue, (0 : Int), (2 : Int))
    else
      (r18_own N x0).bind fun (r3 : Queue) =>
        (bif decide ((↑r3.Groups.length : Int) > (0 : Int)) then
              bif true && decide ((0 : Int) < (↑r3.Groups.length : Int)) then
                some (decide (r3.Groups.getD 0 (0 : Int) > x1))
              else none
            else some false).bind
          fun (r4 : Bool) =>
          bif r4 then
            bif true && decide ((0 : Int) < (↑r3.Groups.length : Int)) then
              bif true && decide ((0 : Int) < (↑r3.Groups.length : Int)) then
                (some (r3.Groups.set 0 (IntKind.i64.wrap (r3.Groups.getD 0 (0 : Int) - x1)))).bind
                  fun (r5 : List Int) => some (Queue.mk r5 r3.Singles, x1, (0 : Int))
              else none
            else none
          else
            (whileF N
                  (fun (p6 : Int × Queue) =>
                    (bif decide ((↑p6.snd.Groups.length : Int) > (0 : Int)) then
                          bif true && decide ((0 : Int) < (↑p6.snd.Groups.length : Int)) then
                            some (decide (p6.snd.Groups.getD 0 (0 : Int) ≤ p6.fst))
                          else none
                        else some false).bind
                      fun (r7 : Bool) =>
                      bif r7 then
                        bif true && decide ((0 : Int) < (↑p6.snd.Groups.length : Int)) then
                          bif true && decide ((1 : Int) ≤ (↑p6.snd.Groups.length : Int)) then
                            some
                              (Sum.inl
                                (IntKind.i64.wrap (p6.fst - p6.snd.Groups.getD 0 (0 : Int)),
                                  Queue.mk (List.drop 1 p6.snd.Groups) p6.snd.Singles))
                          else none
                        else none
                      else some (Sum.inr p6))
                  (x1, r3)).bind
              fun (r8 : Int × Queue) =>
              (bif decide (r8.snd.Singles > r8.fst) then some r8.fst else some r8.snd.Singles).bind fun (r9 : Int) =>
                some
                  (Queue.mk r8.snd.Groups (IntKind.i64.wrap (r8.snd.Singles - r9)),
                    IntKind.i64.wrap (IntKind.i64.wrap (x1 - r8.fst) + r9), (0 : Int))
theorem d_r18_Seat (N : Nat) : DenF Tryz.prog 156 ⟨[.t_Queue, .t_i64], [.t_Queue, .t_i64, .t_i64], [[none, none], [none], [none]], r18_Seat N⟩ :=
  den_of (N := N) (gam := [(141, ⟨[.t_Queue], [.t_Queue], [[some 3, none]], r18_own N⟩)]) (txt := []) (hints := [(156, [([0, 0, 1], ⟨[1, 2, 4], [], [(.nrm, [.reg 15 .t_bool [none]])], []⟩), ([0, 0, 1, 1, 1], ⟨[1, 4, 7], [], [(.nrm, [.reg 30 .t_bool [none]])], []⟩), ([0, 0, 1, 1, 1, 1, 1], ⟨[1, 4, 7], [.reg 8 .t_i64 [none], .var 7 .t_Queue [none, none]], [(.ex 0, [.reg 8 .t_i64 [none], .var 7 .t_Queue [none, none]])], []⟩), ([0, 0, 0, 0, 0, 1, 1, 1, 1, 1], ⟨[1, 4, 7, 8], [], [(.nrm, [.reg 54 .t_bool [none]])], []⟩), ([1, 0, 1, 1, 1, 1, 1, 1, 1], ⟨[1, 4, 7, 8], [], [(.nrm, [.reg 9 .t_i64 [none]])], []⟩)])]) mixed (.cons (d_r18_own N) .nil) .nil Tryz.func156 (by kernel_rfl) (by kernel_rfl)

def r17_set (N : Nat) (x0 : Line) (x1 x2 : Int) : Option Line :=
 
  bif decide ((0 + x0.Load.length) * 8 ≤ 140737488355328) then
    (some ([] ++ x0.Load)).bind fun (r3 : List Int) =>
      bif decide ((0 : Int) ≤ x1) && decide (x1 < (↑r3.length : Int)) then
        (some (r3.set x1.toNat x2)).bind fun (r4 : List Int) => (r17_with N x0 r4).bind fun (r5 : Line) => some r5
      else none
  else none
theorem d_r17_set (N : Nat) : DenF Tryz.prog 142 ⟨[.t_Line, .t_i64, .t_i64], [.t_Line], [[none, none, none, none]], r17_set N⟩ :=
  den_of (N := N) (gam := [(158, ⟨[.t_Line, .l_i64], [.t_Line], [[none, none, none, none]], r17_with N⟩)]) (txt := []) (hints := []) mixed (.cons (d_r17_with N) .nil) .nil Tryz.func142 (by kernel_rfl) (by kernel_rfl)

def r17_Load (N : Nat) (x0 : Line) (x1 x2 x3 : Int) : Option (Line × Int) :=
 
  (r17_At N x0 x1).bind fun (r4 : Int) =>
    bif decide (r4 < (0 : Int)) then some (z_Line, (8 : Int))
    else
      (bif decide (r4 ≥ x0.Spacing) then some true
          else
            bif decide (r4 ≥ IntKind.i64.wrap (x0.Loop.tdiv (2 : Int))) then some true
            else
              bif decide ((0 : Int) ≤ x1) && decide (x1 < (↑x0.Load.length : Int)) then
                some (x0.Load.getD x1.toNat (0 : Int) != (0 : Int))
              else none).bind
        fun (r5 : Bool) =>
        bif r5 then some (z_Line, (10 : Int))
        else
          (bif decide (x2 < (0 : Int)) then some true
              else bif decide (x2 > x3) then some true else some (decide (x3 > (16 : Int)))).bind
            fun (r6 : Bool) =>
            bif r6 then some (z_Line, (2 : Int)) else (r17_set N x0 x1 x2).bind fun (r7 : Line) => some (r7, (0 : Int))
theorem d_r17_Load (N : Nat) : DenF Tryz.prog 157 ⟨[.t_Line, .t_i64, .t_i64, .t_i64], [.t_Line, .t_i64], [[none, none, none, none], [none]], r17_Load N⟩ :=
  den_of (N := N) (gam := [(76, ⟨[.t_Line, .t_i64], [.t_i64], [[none]], r17_At N⟩), (142, ⟨[.t_Line, .t_i64, .t_i64], [.t_Line], [[none, none, none, none]], r17_set N⟩)]) (txt := []) (hints := [(157, [([0, 0, 1, 1, 1], ⟨[1, 2, 3, 4, 8], [], [(.nrm, [.reg 35 .t_bool [none]])], []⟩), ([0, 0, 1, 1, 1, 1], ⟨[1, 2, 4, 8], [], [(.nrm, [.reg 47 .t_bool [none]])], []⟩)])]) mixed (.cons (d_r17_At N) (.cons (d_r17_set N) .nil)) .nil Tryz.func157 (by kernel_rfl) (by kernel_rfl)

def r20_second (N : Nat) (x0 : LiftState) : Option LiftState :=
 
  (r14_Step N x0.Motor x0.Drive (1 : Int)).bind fun (r1 : Drive) =>
    (r17_Move N x0.Line r1.Speed).bind fun (r2 : Line × Int × Int × Int) =>
      (bif decide (r2.snd.fst ≥ (0 : Int)) then some (x0.Mode == (1 : Int)) else some false).bind fun (r3 : Bool) =>
        (bif r3 then
              (r18_Seat N x0.Queue x0.Lift.Seats).bind fun (r4 : Queue × Int × Int) =>
                (r17_Load N r2.fst r2.snd.fst r4.snd.fst x0.Lift.Seats).bind fun (r5 : Line × Int) =>
                  some
                    (LiftState.mk x0.Lift x0.Motor r1 x0.Brakes x0.Chain x0.Wind r5.fst r4.fst x0.Checks
                      (IntKind.i64.wrap (x0.Time + (1 : Int))) x0.Mode (IntKind.i64.wrap (x0.Up + r4.snd.fst))
                      (IntKind.i64.wrap (x0.Off + r2.snd.snd.fst)))
            else
              some
                (LiftState.mk x0.Lift x0.Motor r1 x0.Brakes x0.Chain x0.Wind r2.fst x0.Queue x0.Checks
                  (IntKind.i64.wrap (x0.Time + (1 : Int))) x0.Mode x0.Up
                  (IntKind.i64.wrap (x0.Off + r2.snd.snd.fst)))).bind
          fun (r6 : LiftState) => some r6
theorem d_r20_second (N : Nat) : DenF Tryz.prog 139 ⟨[.t_LiftState], [.t_LiftState], [[none, none, none, none, none, none, none, none, none, none, none, none, none, none, none, none, none, none, none, none, none, none, none, none, none, none, none, none, none, none, none, none, none, none, none, none, none]], r20_second N⟩ :=
  den_of (N := N) (gam := [(154, ⟨[.t_Motor, .t_Drive, .t_i64], [.t_Drive], [[none, none, none, none]], r14_Step N⟩), (155, ⟨[.t_Line, .t_i64], [.t_Line, .t_i64, .t_i64, .t_i64], [[none, none, none, none], [none], [none], [none]], r17_Move N⟩), (156, ⟨[.t_Queue, .t_i64], [.t_Queue, .t_i64, .t_i64], [[none, none], [none], [none]], r18_Seat N⟩), (157, ⟨[.t_Line, .t_i64, .t_i64, .t_i64], [.t_Line, .t_i64], [[none, none, none, none], [none]], r17_Load N⟩)]) (txt := []) (hints := [(139, [([0, 0, 1, 1, 1, 1, 1, 1], ⟨[1, 2, 4], [], [(.nrm, [.reg 46 .t_bool [none]])], []⟩), ([1, 0, 1, 1, 1, 1, 1, 1], ⟨[1, 2], [], [(.nrm, [.var 1 .t_LiftState [none, none, none, none, none, none, none, none, none, none, none, none, none, none, none, none, none, none, none, none, none, none, none, none, none, none, none, none, none, none, none, none, none, none, none, none, none]])], []⟩)])]) mixed (.cons (d_r14_Step N) (.cons (d_r17_Move N) (.cons (d_r18_Seat N) (.cons (d_r17_Load N) .nil)))) .nil Tryz.func139 (by kernel_rfl) (by kernel_rfl)

def r20_tick (N : Nat) (x0 : LiftState) (x1 : Int) : Option (LiftState × Int) :=
 
  (bif decide (x1 < (1 : Int)) then some true
      else
        bif decide (x1 > (600 : Int)) then some true
        else some (decide (x0.Time > IntKind.i64.wrap ((20000000 : Int) - x1)))).bind
    fun (r2 : Bool) =>
    bif r2 then some (x0, (2 : Int))
    else
      (whileF N
            (fun (p3 : Int × LiftState) =>
              bif decide (p3.fst < x1) then
                (bif decide (p3.fst > (0 : Int)) then (r20_guard N p3.snd).bind fun (r4 : LiftState) => some r4
                    else some p3.snd).bind
                  fun (r5 : LiftState) =>
                  (r20_second N r5).bind fun (r6 : LiftState) =>
                    some (Sum.inl (IntKind.i64.wrap (p3.fst + (1 : Int)), r6))
              else some (Sum.inr p3.snd))
            ((0 : Int), x0)).bind
        fun (r7 : LiftState) =>
        (bif decide (r7.Up > (1125899906842624 : Int)) then some true
            else some (decide (r7.Off > (1125899906842624 : Int)))).bind
          fun (r8 : Bool) => bif r8 then some (r7, (12 : Int)) else some (r7, (0 : Int))
theorem d_r20_tick (N : Nat) : DenF Tryz.prog 94 ⟨[.t_LiftState, .t_i64], [.t_LiftState, .t_i64], [[none, none, none, none, none, none, none, none, none, none, none, none, none, none, none, none, none, none, none, none, none, none, none, none, none, none, none, none, none, none, none, none, none, none, none, none, none], [none]], r20_tick N⟩ :=
  den_of (N := N) (gam := [(59, ⟨[.t_LiftState], [.t_LiftState], [[none, none, none, none, none, none, none, none, none, none, none, none, none, none, none, none, none, none, none, none, none, none, none, none, none, none, none, none, none, none, none, none, none, none, none, none, none]], r20_guard N⟩), (139, ⟨[.t_LiftState], [.t_LiftState], [[none, none, none, none, none, none, none, none, none, none, none, none, none, none, none, none, none, none, none, none, none, none, none, none, none, none, none, none, none, none, none, none, none, none, none, none, none]], r20_second N⟩)]) (txt := []) (hints := [(94, [([0, 0, 1], ⟨[1, 2, 4], [], [(.nrm, [.reg 19 .t_bool [none]])], []⟩), ([0, 1, 0, 1, 1], ⟨[1, 2, 4], [.reg 6 .t_i64 [none], .var 2 .t_LiftState [none, none, none, none, none, none, none, none, none, none, none, none, none, none, none, none, none, none, none, none, none, none, none, none, none, none, none, none, none, none, none, none, none, none, none, none, none]], [(.ex 0, [.var 2 .t_LiftState [none, none, none, none, none, none, none, none, none, none, none, none, none, none, none, none, none, none, none, none, none, none, none, none, none, none, none, none, none, none, none, none, none, none, none, none, none]])], []⟩), ([1, 0, 0, 0, 1, 0, 0, 1, 0, 1, 1], ⟨[1, 2, 4, 6], [], [(.nrm, [.var 2 .t_LiftState [none, none, none, none, none, none, none, none, none, none, none, none, none, none, none, none, none, none, none, none, none, none, none, none, none, none, none, none, none, none, none, none, none, none, none, none, none]])], []⟩), ([0, 0, 1, 1, 1], ⟨[2, 4], [], [(.nrm, [.reg 39 .t_bool [none]])], []⟩)])]) mixed (.cons (d_r20_guard N) (.cons (d_r20_second N) .nil)) .nil Tryz.func94 (by kernel_rfl) (by kernel_rfl)

def r14_Start (N : Nat) (x0 : Motor) (x1 : Drive) (x2 : Int) : Option (Drive × Int) :=
 
  (bif x1.State == (2 : Int) then some true else some (x1.State == (3 : Int))).bind fun (r3 : Bool) =>
    bif r3 then some (z_Drive, (10 : Int))
    else
      (bif decide (x2 < (1 : Int)) then some true else some (decide (x2 > x0.Max))).bind fun (r4 : Bool) =>
        bif r4 then some (z_Drive, (2 : Int)) else some (Drive.mk (1 : Int) x1.Speed x2 x1.Moved, (0 : Int))
theorem d_r14_Start (N : Nat) : DenF Tryz.prog 95 ⟨[.t_Motor, .t_Drive, .t_i64], [.t_Drive, .t_i64], [[none, none, none, none], [none]], r14_Start N⟩ :=
  den_of (N := N) (gam := []) (txt := []) (hints := [(95, [([0, 0, 1], ⟨[2, 3, 4, 6], [], [(.nrm, [.reg 15 .t_bool [none]])], []⟩), ([0, 0, 1, 1], ⟨[2, 4, 6], [], [(.nrm, [.reg 24 .t_bool [none]])], []⟩)])]) mixed .nil .nil Tryz.func95 (by kernel_rfl) (by kernel_rfl)

def r14_Reset (N : Nat) (x0 : Motor) (x1 : Drive) : Option (Drive × Int) :=
 
  (bif x1.State != (3 : Int) then some true else some (x1.Speed != (0 : Int))).bind fun (r2 : Bool) =>
    bif r2 then some (z_Drive, (10 : Int)) else some (Drive.mk (0 : Int) x1.Speed x1.Target x1.Moved, (0 : Int))
theorem d_r14_Reset (N : Nat) : DenF Tryz.prog 97 ⟨[.t_Motor, .t_Drive], [.t_Drive, .t_i64], [[none, none, none, none], [none]], r14_Reset N⟩ :=
  den_of (N := N) (gam := []) (txt := []) (hints := [(97, [([0, 0, 1], ⟨[3, 4], [], [(.nrm, [.reg 13 .t_bool [none]])], []⟩)])]) mixed .nil .nil Tryz.func97 (by kernel_rfl) (by kernel_rfl)

def r20_move (N : Nat) (x0 : LiftState) (x1 : LiftEvent) : Option (LiftState × Int) :=
 
  bif x1.Kind == (1 : Int) then (r20_tick N x0 x1.N).bind fun (r2 : LiftState × Int) => some r2
  else
    (bif x1.Kind == (4 : Int) then
          bif x0.Mode == (0 : Int) then some (Sum.inr ((10 : Int), x0, x0))
          else
            (bif x0.Mode == (2 : Int) then some (decide (x1.N > (1000 : Int))) else some false).bind fun (r3 : Bool) =>
              bif r3 then some (Sum.inr ((2 : Int), x0, x0))
              else
                (r20_May N x0).bind fun (r4 : Int) =>
                  bif r4 != (0 : Int) then some (Sum.inr (r4, x0, x0))
                  else
                    (r14_Start N x0.Motor x0.Drive x1.N).bind fun (r5 : Drive × Int) =>
                      some
                        (Sum.inl
                          (r5.snd, z_LiftState,
                            LiftState.mk x0.Lift x0.Motor r5.fst x0.Brakes x0.Chain x0.Wind x0.Line x0.Queue x0.Checks
                              x0.Time x0.Mode x0.Up x0.Off))
        else
          (bif x1.Kind == (5 : Int) then
                (r14_Halt N x0.Motor x0.Drive).bind fun (r6 : Drive) =>
                  some
                    ((0 : Int),
                      LiftState.mk x0.Lift x0.Motor r6 x0.Brakes x0.Chain x0.Wind x0.Line x0.Queue x0.Checks x0.Time
                        x0.Mode x0.Up x0.Off)
              else
                (bif x1.Kind == (6 : Int) then
                      (r14_Emergency N x0.Motor x0.Drive).bind fun (r7 : Drive) =>
                        some
                          ((0 : Int),
                            LiftState.mk x0.Lift x0.Motor r7 x0.Brakes x0.Chain x0.Wind x0.Line x0.Queue x0.Checks
                              x0.Time x0.Mode x0.Up x0.Off)
                    else
                      (bif x1.Kind == (7 : Int) then
                            (r14_Reset N x0.Motor x0.Drive).bind fun (r8 : Drive × Int) =>
                              some
                                (r8.snd,
                                  LiftState.mk x0.Lift x0.Motor r8.fst x0.Brakes x0.Chain x0.Wind x0.Line x0.Queue
                                    x0.Checks x0.Time x0.Mode x0.Up x0.Off)
                          else some ((0 : Int), x0)).bind
                        fun (r9 : Int × LiftState) => some r9).bind
                  fun (r10 : Int × LiftState) => some r10).bind
            fun (r11 : Int × LiftState) => some (Sum.inl (r11.fst, z_LiftState, r11.snd))).bind
      fun (r12 : Int × LiftState × LiftState ⊕ Int × LiftState × LiftState) =>
      Sum.elim (fun (p13 : Int × LiftState × LiftState) => some (p13.snd.snd, p13.fst))
        (fun (p14 : Int × LiftState × LiftState) => some (p14.snd.fst, p14.fst)) r12
theorem d_r20_move (N : Nat) : DenF Tryz.prog 56 ⟨[.t_LiftState, .t_LiftEvent], [.t_LiftState, .t_i64], [[none, none, none, none, none, none, none, none, none, none, none, none, none, none, none, none, none, none, none, none, none, none, none, none, none, none, none, none, none, none, none, none, none, none, none, none, none], [none]], r20_move N⟩ :=
  den_of (N := N) (gam := [(94, ⟨[.t_LiftState, .t_i64], [.t_LiftState, .t_i64], [[none, none, none, none, none, none, none, none, none, none, none, none, none, none, none, none, none, none, none, none, none, none, none, none, none, none, none, none, none, none, none, none, none, none, none, none, none], [none]], r20_tick N⟩), (19, ⟨[.t_LiftState], [.t_i64], [[none]], r20_May N⟩), (95, ⟨[.t_Motor, .t_Drive, .t_i64], [.t_Drive, .t_i64], [[none, none, none, none], [none]], r14_Start N⟩), (93, ⟨[.t_Motor, .t_Drive], [.t_Drive], [[none, none, none, none]], r14_Halt N⟩), (96, ⟨[.t_Motor, .t_Drive], [.t_Drive], [[none, none, none, none]], r14_Emergency N⟩), (97, ⟨[.t_Motor, .t_Drive], [.t_Drive, .t_i64], [[none, none, none, none], [none]], r14_Reset N⟩)]) (txt := []) (hints := [(56, [([1, 1, 1, 0, 1, 0, 1, 1], ⟨[2, 4], [], [(.nrm, [.reg 6 .t_i64 [none], .var 4 .t_LiftState [none, none, none, none, none, none, none, none, none, none, none, none, none, none, none, none, none, none, none, none, none, none, none, none, none, none, none, none, none, none, none, none, none, none, none, none, none], .var 2 .t_LiftState [none, none, none, none, none, none, none, none, none, none, none, none, none, none, none, none, none, none, none, none, none, none, none, none, none, none, none, none, none, none, none, none, none, none, none, none, none]]), (.ret, [.reg 5 .t_i64 [none], .var 4 .t_LiftState [none, none, none, none, none, none, none, none, none, none, none, none, none, none, none, none, none, none, none, none, none, none, none, none, none, none, none, none, none, none, none, none, none, none, none, none, none], .var 2 .t_LiftState [none, none, none, none, none, none, none, none, none, none, none, none, none, none, none, none, none, none, none, none, none, none, none, none, none, none, none, none, none, none, none, none, none, none, none, none, none]])], []⟩), ([0, 0, 1, 0, 1, 1, 1, 0, 1, 0, 1, 1], ⟨[2, 3, 4], [], [(.nrm, [.reg 31 .t_bool [none]])], []⟩), ([1, 1, 1, 1, 1, 0, 1, 0, 1, 1], ⟨[2, 4], [], [(.nrm, [.reg 6 .t_i64 [none], .var 2 .t_LiftState [none, none, none, none, none, none, none, none, none, none, none, none, none, none, none, none, none, none, none, none, none, none, none, none, none, none, none, none, none, none, none, none, none, none, none, none, none]])], []⟩), ([1, 1, 1, 1, 1, 1, 1, 0, 1, 0, 1, 1], ⟨[2, 4], [], [(.nrm, [.reg 6 .t_i64 [none], .var 2 .t_LiftState [none, none, none, none, none, none, none, none, none, none, none, none, none, none, none, none, none, none, none, none, none, none, none, none, none, none, none, none, none, none, none, none, none, none, none, none, none]])], []⟩), ([1, 1, 1, 1, 1, 1, 1, 1, 1, 0, 1, 0, 1, 1], ⟨[2, 4], [], [(.nrm, [.reg 6 .t_i64 [none], .var 2 .t_LiftState [none, none, none, none, none, none, none, none, none, none, none, none, none, none, none, none, none, none, none, none, none, none, none, none, none, none, none, none, none, none, none, none, none, none, none, none, none]])], []⟩)])]) mixed (.cons (d_r20_tick N) (.cons (d_r20_May N) (.cons (d_r14_Start N) (.cons (d_r14_Halt N) (.cons (d_r14_Emergency N) (.cons (d_r14_Reset N) .nil)))))) .nil Tryz.func56 (by kernel_rfl) (by kernel_rfl)

def r16_with (N : Nat) (x0 : Chain) (x1 : Int) (x2 : Contact) : Option Chain :=
 
  (whileF N
        (fun (p3 : Int × Chain) =>
          bif decide (p3.fst < (↑x0.Contacts.length : Int)) then
            (bif p3.fst == x1 then
                  (some [x2]).bind fun (r4 : List Contact) =>
                    bif decide ((p3.snd.Contacts.length + r4.length) * 24 ≤ 140737488355328) then
                      (some (p3.snd.Contacts ++ r4)).bind fun (r5 : List Contact) => some (Chain.mk r5 p3.snd.Key)
                    else none
                else
                  bif decide ((0 : Int) ≤ p3.fst) && decide (p3.fst < (↑x0.Contacts.length : Int)) then
                    (some [x0.Contacts.getD (Int.toNat p3.fst) z_Contact]).bind fun (r6 : List Contact) =>
                      bif decide ((p3.snd.Contacts.length + r6.length) * 24 ≤ 140737488355328) then
                        (some (p3.snd.Contacts ++ r6)).bind fun (r7 : List Contact) => some (Chain.mk r7 p3.snd.Key)
                      else none
                  else none).bind
              fun (r8 : Chain) => some (Sum.inl (IntKind.i64.wrap (p3.fst + (1 : Int)), r8))
          else some (Sum.inr p3.snd))
        ((0 : Int), Chain.mk [] x0.Key)).bind
    fun (r9 : Chain) => some r9
theorem d_r16_with (N : Nat) : DenF Tryz.prog 140 ⟨[.t_Chain, .t_i64, .t_Contact], [.t_Chain], [[some 92, none]], r16_with N⟩ :=
  den_of (N := N) (gam := []) (txt := []) (hints := [(140, [([0, 1, 0, 1, 1], ⟨[1, 3, 5, 6, 7], [.reg 8 .t_i64 [none], .var 7 .t_Chain [some 92, none]], [(.ex 0, [.var 7 .t_Chain [some 92, none]])], []⟩), ([1, 0, 0, 1, 0, 0, 1, 0, 1, 1], ⟨[1, 3, 5, 6, 7, 8], [], [(.nrm, [.var 7 .t_Chain [some 92, none]])], []⟩)])]) mixed .nil .nil Tryz.func140 (by kernel_rfl) (by kernel_rfl)

def r16_Break (N : Nat) (x0 : Chain) (x1 : Int) : Option (Chain × Int) :=
 
  (r16_index N x0.Contacts x1).bind fun (r2 : Int) =>
    bif decide (r2 < (0 : Int)) then some (z_Chain, (8 : Int))
    else
      bif decide ((0 : Int) ≤ r2) && decide (r2 < (↑x0.Contacts.length : Int)) then
        (r16_with N x0 r2
              (Contact.mk (x0.Contacts.getD r2.toNat z_Contact).ID (x0.Contacts.getD r2.toNat z_Contact).Critical false
                true (x0.Contacts.getD r2.toNat z_Contact).Until)).bind
          fun (r3 : Chain) => some (r3, (0 : Int))
      else none
theorem d_r16_Break (N : Nat) : DenF Tryz.prog 98 ⟨[.t_Chain, .t_i64], [.t_Chain, .t_i64], [[some 92, none], [none]], r16_Break N⟩ :=
  den_of (N := N) (gam := [(64, ⟨[.l_Contact, .t_i64], [.t_i64], [[none]], r16_index N⟩), (140, ⟨[.t_Chain, .t_i64, .t_Contact], [.t_Chain], [[some 92, none]], r16_with N⟩)]) (txt := []) (hints := []) mixed (.cons (d_r16_index N) (.cons (d_r16_with N) .nil)) .nil Tryz.func98 (by kernel_rfl) (by kernel_rfl)
end Go.Proofs.YthjmbcnohgaihaaGreat
