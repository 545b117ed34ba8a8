/- Written by a program (gen.py, asm.py): what each function computes, as a plain function, and that its text computes it. No condition. -/
import Derived.Test.YtjlhngfmghipoaaSg
import Derived.Test.YtjlhngfmghipoaaCmo
namespace Go.Proofs.Ytjlhngfmghipoaa
open Go.Cm Go.Proofs
set_option linter.unusedVariables false
set_option maxRecDepth 100000

def l14_motor (N : Nat) : Option Motor :=
  some (Motor.mk (5000 : Int) (400 : Int) (500 : Int) (1500 : Int))
theorem d_l14_motor (N : Nat) : DenF Try.prog 29 ⟨[], [.t_Motor], [[none, none, none, none]], l14_motor N⟩ :=
  den_of (N := N) (gam := []) (txt := []) (hints := []) mixed .nil .nil Try.func29 (by kernel_rfl) (by kernel_rfl)

def drive_within (N : Nat) (x0 x1 x2 : Int) : Option Bool :=
 
  (bif decide (x1 ≤ x0) then some (decide (x0 ≤ x2)) else some false).bind fun (r3 : Bool) => some r3
theorem d_drive_within (N : Nat) : DenF Try.prog 30 ⟨[.t_i64, .t_i64, .t_i64], [.t_bool], [[none]], drive_within N⟩ :=
  den_of (N := N) (gam := []) (txt := []) (hints := [(30, [([0, 1], ⟨[], [], [(.nrm, [.reg 6 .t_bool [none]])]⟩)])]) mixed .nil .nil Try.func30 (by kernel_rfl) (by kernel_rfl)

def drive_Start (N : Nat) (x0 : Motor) (x1 : Drive) (x2 : Int) : Option (Drive × Int) :=
 
  (bif x1.State == (2 : Int) then some true else some (x1.State == (3 : Int))).bind fun (r3 : Bool) =>
    bif r3 then some (z_Drive, (10 : Int))
    else
      (drive_within N x2 (1 : Int) x0.Max).bind fun (r4 : Bool) =>
        bif !r4 then some (z_Drive, (2 : Int)) else some (Drive.mk (1 : Int) x1.Speed x2 x1.Moved, (0 : Int))
theorem d_drive_Start (N : Nat) : DenF Try.prog 16 ⟨[.t_Motor, .t_Drive, .t_i64], [.t_Drive, .t_i64], [[none, none, none, none], [none]], drive_Start N⟩ :=
  den_of (N := N) (gam := [(30, ⟨[.t_i64, .t_i64, .t_i64], [.t_bool], [[none]], drive_within N⟩)]) (txt := []) (hints := [(16, [([0, 0, 1], ⟨[2, 3, 4, 6], [], [(.nrm, [.reg 15 .t_bool [none]])]⟩)])]) mixed (.cons (d_drive_within N) .nil) .nil Try.func16 (by kernel_rfl) (by kernel_rfl)

def drive_next (N : Nat) (x0 : Motor) (x1 : Drive) : Option Int :=
 
  bif x1.State == (1 : Int) then
    bif decide (x1.Speed < x1.Target) then some (min (IntKind.i64.wrap (x1.Speed + x0.Up)) x1.Target)
    else some (max (IntKind.i64.wrap (x1.Speed - x0.Down)) x1.Target)
  else
    bif x1.State == (2 : Int) then some (max (IntKind.i64.wrap (x1.Speed - x0.Down)) (0 : Int))
    else bif x1.State == (3 : Int) then some (max (IntKind.i64.wrap (x1.Speed - x0.Stop)) (0 : Int)) else some x1.Speed
theorem d_drive_next (N : Nat) : DenF Try.prog 31 ⟨[.t_Motor, .t_Drive], [.t_i64], [[none]], drive_next N⟩ :=
  den_of (N := N) (gam := []) (txt := []) (hints := []) mixed .nil .nil Try.func31 (by kernel_rfl) (by kernel_rfl)

def drive_Step (N : Nat) (x0 : Motor) (x1 : Drive) (x2 : Int) : Option Drive :=
 
  (whileF N
        (fun (p3 : Int × Drive) =>
          bif decide (p3.fst < min (max x2 (0 : Int)) (3600 : Int)) then
            (drive_next N x0 p3.snd).bind fun (r4 : Int) =>
              (bif p3.snd.State == (2 : Int) then some (r4 == (0 : Int)) else some false).bind fun (r5 : Bool) =>
                (bif r5 then
                      some
                        (Drive.mk (0 : Int) r4 p3.snd.Target
                          ((IntKind.i64.wrap (p3.snd.Moved + r4)).tmod (1125899906842625 : Int)))
                    else
                      some
                        (Drive.mk p3.snd.State r4 p3.snd.Target
                          ((IntKind.i64.wrap (p3.snd.Moved + r4)).tmod (1125899906842625 : Int)))).bind
                  fun (r6 : Drive) => some (Sum.inl (IntKind.i64.wrap (p3.fst + (1 : Int)), r6))
          else some (Sum.inr p3.snd))
        ((0 : Int), x1)).bind
    fun (r7 : Drive) => some r7
theorem d_drive_Step (N : Nat) : DenF Try.prog 24 ⟨[.t_Motor, .t_Drive, .t_i64], [.t_Drive], [[none, none, none, none]], drive_Step N⟩ :=
  den_of (N := N) (gam := [(31, ⟨[.t_Motor, .t_Drive], [.t_i64], [[none]], drive_next N⟩)]) (txt := []) (hints := [(24, [([0, 1, 0, 1], ⟨[3, 4, 6, 9], [.reg 10 .t_i64 [none], .var 4 .t_Drive [none, none, none, none]], [(.ex 0, [.var 4 .t_Drive [none, none, none, none]])]⟩), ([0, 1, 1, 0, 0, 1, 1, 0, 0, 1, 0, 1], ⟨[3, 4, 6, 9, 10], [], [(.nrm, [.reg 30 .t_bool [none]])]⟩), ([1, 1, 1, 0, 0, 1, 1, 0, 0, 1, 0, 1], ⟨[3, 4, 6, 9, 10], [], [(.nrm, [.var 4 .t_Drive [none, none, none, none]])]⟩)])]) mixed (.cons (d_drive_next N) .nil) .nil Try.func24 (by kernel_rfl) (by kernel_rfl)

def drive_Halt (N : Nat) (x0 : Motor) (x1 : Drive) : Option Drive :=
 
  (bif x1.State == (1 : Int) then some (Drive.mk (2 : Int) x1.Speed (0 : Int) x1.Moved) else some x1).bind
    fun (r2 : Drive) => some r2
theorem d_drive_Halt (N : Nat) : DenF Try.prog 20 ⟨[.t_Motor, .t_Drive], [.t_Drive], [[none, none, none, none]], drive_Halt N⟩ :=
  den_of (N := N) (gam := []) (txt := []) (hints := [(20, [([1, 0, 1], ⟨[3, 4], [], [(.nrm, [.var 3 .t_Drive [none, none, none, none]])]⟩)])]) mixed .nil .nil Try.func20 (by kernel_rfl) (by kernel_rfl)

def drive_Emergency (N : Nat) (x0 : Motor) (x1 : Drive) : Option Drive :=
  some (Drive.mk (3 : Int) x1.Speed (0 : Int) x1.Moved)
theorem d_drive_Emergency (N : Nat) : DenF Try.prog 22 ⟨[.t_Motor, .t_Drive], [.t_Drive], [[none, none, none, none]], drive_Emergency N⟩ :=
  den_of (N := N) (gam := []) (txt := []) (hints := []) mixed .nil .nil Try.func22 (by kernel_rfl) (by kernel_rfl)

def drive_Reset (N : Nat) (x0 : Motor) (x1 : Drive) : Option (Drive × Int) :=
 
  (bif x1.State != (3 : Int) then some true else some (x1.Speed != (0 : Int))).bind fun (r2 : Bool) =>
    bif r2 then some (z_Drive, (10 : Int)) else some (Drive.mk (0 : Int) x1.Speed x1.Target x1.Moved, (0 : Int))
theorem d_drive_Reset (N : Nat) : DenF Try.prog 18 ⟨[.t_Motor, .t_Drive], [.t_Drive, .t_i64], [[none, none, none, none], [none]], drive_Reset N⟩ :=
  den_of (N := N) (gam := []) (txt := []) (hints := [(18, [([0, 0, 1], ⟨[3, 4], [], [(.nrm, [.reg 13 .t_bool [none]])]⟩)])]) mixed .nil .nil Try.func18 (by kernel_rfl) (by kernel_rfl)

def drive_Right (N : Nat) (x0 : Motor) : Option Bool :=
 
  ((drive_within N x0.Max (500 : Int) (12000 : Int)).bind fun (r1 : Bool) =>
        bif r1 then
          (drive_within N x0.Up (50 : Int) (2000 : Int)).bind fun (r2 : Bool) =>
            bif r2 then
              (drive_within N x0.Down (50 : Int) (2000 : Int)).bind fun (r3 : Bool) =>
                bif r3 then (drive_within N x0.Stop x0.Down (5000 : Int)).bind fun (r4 : Bool) => some r4
                else some false
            else some false
        else some false).bind
    fun (r5 : Bool) => some r5
theorem d_drive_Right (N : Nat) : DenF Try.prog 11 ⟨[.t_Motor], [.t_bool], [[none]], drive_Right N⟩ :=
  den_of (N := N) (gam := [(30, ⟨[.t_i64, .t_i64, .t_i64], [.t_bool], [[none]], drive_within N⟩)]) (txt := []) (hints := [(11, [([0, 1], ⟨[], [], [(.nrm, [.reg 2 .t_bool [none]])]⟩)])]) mixed (.cons (d_drive_within N) .nil) .nil Try.func11 (by kernel_rfl) (by kernel_rfl)

def drive_Valid (N : Nat) (x0 : Motor) (x1 : Drive) : Option Bool :=
 
  ((drive_within N x1.State (0 : Int) (3 : Int)).bind fun (r2 : Bool) =>
        bif !r2 then some true
        else
          (drive_within N x1.Speed (0 : Int) x0.Max).bind fun (r3 : Bool) =>
            bif !r3 then some true
            else (drive_within N x1.Moved (0 : Int) (1125899906842624 : Int)).bind fun (r4 : Bool) => some !r4).bind
    fun (r5 : Bool) =>
    bif r5 then some false
    else
      (bif x1.State == (0 : Int) then some (x1.Speed != (0 : Int)) else some false).bind fun (r6 : Bool) =>
        bif r6 then some false
        else
          bif x1.State == (1 : Int) then (drive_within N x1.Target (1 : Int) x0.Max).bind fun (r7 : Bool) => some r7
          else some (x1.Target == (0 : Int))
theorem d_drive_Valid (N : Nat) : DenF Try.prog 13 ⟨[.t_Motor, .t_Drive], [.t_bool], [[none]], drive_Valid N⟩ :=
  den_of (N := N) (gam := [(30, ⟨[.t_i64, .t_i64, .t_i64], [.t_bool], [[none]], drive_within N⟩)]) (txt := []) (hints := [(13, [([0, 0, 1], ⟨[2, 3], [], [(.nrm, [.reg 22 .t_bool [none]])]⟩), ([0, 0, 1, 1], ⟨[2, 3], [], [(.nrm, [.reg 30 .t_bool [none]])]⟩)])]) mixed (.cons (d_drive_within N) .nil) .nil Try.func13 (by kernel_rfl) (by kernel_rfl)

def drive_Distance (N : Nat) (x0 : Motor) (x1 : Drive) : Option Int :=
 
  (drive_Emergency N x0 x1).bind fun (r2 : Drive) =>
    (whileF N
          (fun (p3 : Int × Drive) =>
            (bif decide (p3.snd.Speed > (0 : Int)) then some (decide (x0.Stop > (0 : Int))) else some false).bind
              fun (r4 : Bool) =>
              bif r4 then
                (drive_next N x0 p3.snd).bind fun (r5 : Int) =>
                  some (Sum.inl (IntKind.i64.wrap (p3.fst + r5), Drive.mk p3.snd.State r5 p3.snd.Target p3.snd.Moved))
              else some (Sum.inr p3))
          ((0 : Int), r2)).bind
      fun (r6 : Int × Drive) => some r6.fst
theorem d_drive_Distance (N : Nat) : DenF Try.prog 26 ⟨[.t_Motor, .t_Drive], [.t_i64], [[none]], drive_Distance N⟩ :=
  den_of (N := N) (gam := [(22, ⟨[.t_Motor, .t_Drive], [.t_Drive], [[none, none, none, none]], drive_Emergency N⟩), (31, ⟨[.t_Motor, .t_Drive], [.t_i64], [[none]], drive_next N⟩)]) (txt := []) (hints := [(26, [([0, 1, 0, 1, 1], ⟨[2, 3], [.reg 5 .t_i64 [none], .var 3 .t_Drive [none, none, none, none]], [(.ex 0, [.reg 5 .t_i64 [none], .var 3 .t_Drive [none, none, none, none]])]⟩), ([0, 0, 0, 0, 1, 0, 1, 1], ⟨[2, 3, 5], [], [(.nrm, [.reg 16 .t_bool [none]])]⟩)])]) mixed (.cons (d_drive_Emergency N) (.cons (d_drive_next N) .nil)) .nil Try.func26 (by kernel_rfl) (by kernel_rfl)

def l14_alive (N : Nat) : Option Bool :=
 
  (l14_motor N).bind fun (r0 : Motor) =>
    (drive_Start N r0 z_Drive (1000 : Int)).bind fun (r1 : Drive × Int) =>
      (drive_Step N r0 r1.fst (3 : Int)).bind fun (r2 : Drive) =>
        (drive_Halt N r0 r2).bind fun (r3 : Drive) =>
          (drive_Step N r0 r3 (2 : Int)).bind fun (r4 : Drive) =>
            (drive_Emergency N r0 (Drive.mk (1 : Int) (5000 : Int) (5000 : Int) (0 : Int))).bind fun (r5 : Drive) =>
              (drive_Step N r0 r5 (4 : Int)).bind fun (r6 : Drive) =>
                (drive_Reset N r0 r6).bind fun (r7 : Drive × Int) =>
                  (drive_Emergency N r0 (Drive.mk (1 : Int) (5000 : Int) (5000 : Int) (0 : Int))).bind
                    fun (r8 : Drive) =>
                    (drive_Step N r0 r8 (3 : Int)).bind fun (r9 : Drive) =>
                      (drive_Reset N r0 r9).bind fun (r10 : Drive × Int) =>
                        ((drive_Right N r0).bind fun (r11 : Bool) =>
                              bif !r11 then some true
                              else
                                (drive_Valid N r0 (Drive.mk (1 : Int) (5000 : Int) (5000 : Int) (0 : Int))).bind
                                  fun (r12 : Bool) =>
                                  bif !r12 then some true
                                  else
                                    (drive_Valid N r0 (Drive.mk (0 : Int) (1 : Int) (0 : Int) (0 : Int))).bind
                                      fun (r13 : Bool) =>
                                      bif r13 then some true
                                      else
                                        bif r1.snd != (0 : Int) then some true
                                        else
                                          bif r7.snd != (0 : Int) then some true
                                          else
                                            bif r10.snd != (10 : Int) then some true
                                            else
                                              (drive_Distance N r0
                                                    (Drive.mk (1 : Int) (5000 : Int) (5000 : Int) (0 : Int))).bind
                                                fun (r14 : Int) => some (r14 != (6000 : Int))).bind
                          fun (r15 : Bool) =>
                          bif r15 then some false
                          else
                            (bif
                                    r2.State == (1 : Int) &&
                                      (r2.Speed == (1000 : Int) &&
                                        (r2.Target == (1000 : Int) && (r2.Moved == (2200 : Int) && true))) then
                                  bif
                                      r4.State == (0 : Int) &&
                                        (r4.Speed == (0 : Int) &&
                                          (r4.Target == (0 : Int) && (r4.Moved == (2700 : Int) && true))) then
                                    bif
                                        r6.State == (3 : Int) &&
                                          (r6.Speed == (0 : Int) &&
                                            (r6.Target == (0 : Int) && (r6.Moved == (6000 : Int) && true))) then
                                      some
                                        (r7.fst.State == (0 : Int) &&
                                          (r7.fst.Speed == (0 : Int) &&
                                            (r7.fst.Target == (0 : Int) && (r7.fst.Moved == (6000 : Int) && true))))
                                    else some false
                                  else some false
                                else some false).bind
                              fun (r16 : Bool) => some r16
theorem d_l14_alive (N : Nat) : DenF Try.prog 10 ⟨[], [.t_bool], [[none]], l14_alive N⟩ :=
  den_of (N := N) (gam := [(29, ⟨[], [.t_Motor], [[none, none, none, none]], l14_motor N⟩), (16, ⟨[.t_Motor, .t_Drive, .t_i64], [.t_Drive, .t_i64], [[none, none, none, none], [none]], drive_Start N⟩), (24, ⟨[.t_Motor, .t_Drive, .t_i64], [.t_Drive], [[none, none, none, none]], drive_Step N⟩), (20, ⟨[.t_Motor, .t_Drive], [.t_Drive], [[none, none, none, none]], drive_Halt N⟩), (22, ⟨[.t_Motor, .t_Drive], [.t_Drive], [[none, none, none, none]], drive_Emergency N⟩), (18, ⟨[.t_Motor, .t_Drive], [.t_Drive, .t_i64], [[none, none, none, none], [none]], drive_Reset N⟩), (11, ⟨[.t_Motor], [.t_bool], [[none]], drive_Right N⟩), (13, ⟨[.t_Motor, .t_Drive], [.t_bool], [[none]], drive_Valid N⟩), (26, ⟨[.t_Motor, .t_Drive], [.t_i64], [[none]], drive_Distance N⟩)]) (txt := []) (hints := [(10, [([0, 0, 1, 1, 1, 1, 1, 1, 1, 1, 1], ⟨[4, 5, 7, 8], [], [(.nrm, [.reg 80 .t_bool [none]])]⟩), ([0, 1, 1, 1, 1, 1, 1, 1, 1, 1, 1], ⟨[], [], [(.nrm, [.reg 0 .t_bool [none]])]⟩)])]) mixed (.cons (d_l14_motor N) (.cons (d_drive_Start N) (.cons (d_drive_Step N) (.cons (d_drive_Halt N) (.cons (d_drive_Emergency N) (.cons (d_drive_Reset N) (.cons (d_drive_Right N) (.cons (d_drive_Valid N) (.cons (d_drive_Distance N) .nil))))))))) .nil Try.func10 (by kernel_rfl) (by kernel_rfl)

def r14_Right (N : Nat) (x0 : Motor) : Option Bool :=
 
  (bif decide (x0.Max ≥ (500 : Int)) then
        bif decide (x0.Max ≤ (12000 : Int)) then
          bif decide (x0.Up ≥ (50 : Int)) then
            bif decide (x0.Up ≤ (2000 : Int)) then
              bif decide (x0.Down ≥ (50 : Int)) then
                bif decide (x0.Down ≤ (2000 : Int)) then
                  bif decide (x0.Stop ≥ x0.Down) then some (decide (x0.Stop ≤ (5000 : Int))) else some false
                else some false
              else some false
            else some false
          else some false
        else some false
      else some false).bind
    fun (r1 : Bool) => some r1
theorem d_r14_Right (N : Nat) : DenF Try.prog 12 ⟨[.t_Motor], [.t_bool], [[none]], r14_Right N⟩ :=
  den_of (N := N) (gam := []) (txt := []) (hints := [(12, [([0, 1], ⟨[], [], [(.nrm, [.reg 2 .t_bool [none]])]⟩)])]) mixed .nil .nil Try.func12 (by kernel_rfl) (by kernel_rfl)

def r14_Valid (N : Nat) (x0 : Motor) (x1 : Drive) : Option Bool :=
 
  (bif decide (x1.State < (0 : Int)) then some true
      else
        bif decide (x1.State > (3 : Int)) then some true
        else
          bif decide (x1.Speed < (0 : Int)) then some true
          else
            bif decide (x1.Speed > x0.Max) then some true
            else
              bif decide (x1.Moved < (0 : Int)) then some true
              else some (decide (x1.Moved > (1125899906842624 : Int)))).bind
    fun (r2 : Bool) =>
    bif r2 then some false
    else
      (bif x1.State == (0 : Int) then some (x1.Speed != (0 : Int)) else some false).bind fun (r3 : Bool) =>
        bif r3 then some false
        else
          bif x1.State == (1 : Int) then
            (bif decide (x1.Target ≥ (1 : Int)) then some (decide (x1.Target ≤ x0.Max)) else some false).bind
              fun (r4 : Bool) => some r4
          else some (x1.Target == (0 : Int))
theorem d_r14_Valid (N : Nat) : DenF Try.prog 14 ⟨[.t_Motor, .t_Drive], [.t_bool], [[none]], r14_Valid N⟩ :=
  den_of (N := N) (gam := []) (txt := []) (hints := [(14, [([0, 0, 1], ⟨[2, 3], [], [(.nrm, [.reg 34 .t_bool [none]])]⟩), ([0, 0, 1, 1], ⟨[2, 3], [], [(.nrm, [.reg 42 .t_bool [none]])]⟩), ([0, 0, 1, 0, 1, 1, 1], ⟨[], [], [(.nrm, [.reg 4 .t_bool [none]])]⟩)])]) mixed .nil .nil Try.func14 (by kernel_rfl) (by kernel_rfl)
end Go.Proofs.Ytjlhngfmghipoaa
