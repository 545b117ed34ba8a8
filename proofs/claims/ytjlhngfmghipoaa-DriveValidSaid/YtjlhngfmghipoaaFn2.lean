/- Written by a program (gen.py, asm.py): what each function computes, as a plain function, and that its text computes it. No condition. -/
import Derived.Test.YtjlhngfmghipoaaFn1
import Derived.Test.YtjlhngfmghipoaaCmo
namespace Go.Proofs.Ytjlhngfmghipoaa
open Go.Cm Go.Proofs
set_option linter.unusedVariables false
set_option maxRecDepth 100000

def l14_valid (N : Nat) (x0 : Motor) (x1 : Drive) : Option Bool :=
 
  ((r14_Right N x0).bind fun (r2 : Bool) =>
        bif r2 then (r14_Valid N x0 x1).bind fun (r3 : Bool) => some r3 else some false).bind
    fun (r4 : Bool) => some r4
theorem d_l14_valid (N : Nat) : DenF Try.prog 15 ⟨[.t_Motor, .t_Drive], [.t_bool], [[none]], l14_valid N⟩ :=
  den_of (N := N) (gam := [(12, ⟨[.t_Motor], [.t_bool], [[none]], r14_Right N⟩), (14, ⟨[.t_Motor, .t_Drive], [.t_bool], [[none]], r14_Valid N⟩)]) (txt := []) (hints := [(15, [([0, 1], ⟨[], [], [(.nrm, [.reg 4 .t_bool [none]])]⟩)])]) mixed (.cons (d_r14_Right N) (.cons (d_r14_Valid N) .nil)) .nil Try.func15 (by kernel_rfl) (by kernel_rfl)

def l14_DriveValid (N : Nat) (x0 : Motor) (x1 : Drive) (x2 : List Op) : Option Bool :=
 
  (l14_alive N).bind fun (r3 : Bool) =>
    bif !r3 then some false
    else
      ((l14_valid N x0 x1).bind fun (r4 : Bool) =>
            bif !r4 then some true else some (decide ((↑x2.length : Int) > (60 : Int)))).bind
        fun (r5 : Bool) =>
        bif r5 then some true
        else
          (whileF N
                (fun (p6 : Int × Drive) =>
                  bif decide (p6.fst < (↑x2.length : Int)) then
                    (bif decide ((0 : Int) ≤ p6.fst) && decide (p6.fst < (↑x2.length : Int)) then
                          (bif (x2.getD (Int.toNat p6.fst) z_Op).Kind == (0 : Int) then
                                bif decide ((0 : Int) ≤ p6.fst) && decide (p6.fst < (↑x2.length : Int)) then
                                  (drive_Start N x0 p6.snd (x2.getD (Int.toNat p6.fst) z_Op).N).bind
                                    fun (r7 : Drive × Int) => some (r7.snd, r7.fst)
                                else none
                              else
                                bif decide ((0 : Int) ≤ p6.fst) && decide (p6.fst < (↑x2.length : Int)) then
                                  (bif (x2.getD (Int.toNat p6.fst) z_Op).Kind == (1 : Int) then
                                        (drive_Halt N x0 p6.snd).bind fun (r8 : Drive) => some ((0 : Int), r8)
                                      else
                                        bif decide ((0 : Int) ≤ p6.fst) && decide (p6.fst < (↑x2.length : Int)) then
                                          (bif (x2.getD (Int.toNat p6.fst) z_Op).Kind == (2 : Int) then
                                                (drive_Emergency N x0 p6.snd).bind fun (r9 : Drive) =>
                                                  some ((0 : Int), r9)
                                              else
                                                bif
                                                    decide ((0 : Int) ≤ p6.fst) &&
                                                      decide (p6.fst < (↑x2.length : Int)) then
                                                  (bif (x2.getD (Int.toNat p6.fst) z_Op).Kind == (3 : Int) then
                                                        (drive_Reset N x0 p6.snd).bind fun (r10 : Drive × Int) =>
                                                          some (r10.snd, r10.fst)
                                                      else
                                                        bif
                                                            decide ((0 : Int) ≤ p6.fst) &&
                                                              decide (p6.fst < (↑x2.length : Int)) then
                                                          (drive_Step N x0 p6.snd
                                                                (min (x2.getD (Int.toNat p6.fst) z_Op).N
                                                                  (100 : Int))).bind
                                                            fun (r11 : Drive) => some ((0 : Int), r11)
                                                        else none).bind
                                                    fun (r12 : Int × Drive) => some r12
                                                else none).bind
                                            fun (r13 : Int × Drive) => some r13
                                        else none).bind
                                    fun (r14 : Int × Drive) => some r14
                                else none).bind
                            fun (r15 : Int × Drive) =>
                            bif r15.fst != (0 : Int) then
                              bif
                                  !(r15.snd.State == (0 : Int) &&
                                      (r15.snd.Speed == (0 : Int) &&
                                        (r15.snd.Target == (0 : Int) && (r15.snd.Moved == (0 : Int) && true)))) then
                                some (Sum.inr (false, p6.snd))
                              else some (Sum.inl p6.snd)
                            else
                              ((drive_Valid N x0 r15.snd).bind fun (r16 : Bool) =>
                                    bif !r16 then some true
                                    else
                                      bif decide ((0 : Int) ≤ p6.fst) && decide (p6.fst < (↑x2.length : Int)) then
                                        bif decide ((x2.getD (Int.toNat p6.fst) z_Op).Kind ≥ (0 : Int)) then
                                          bif decide ((0 : Int) ≤ p6.fst) && decide (p6.fst < (↑x2.length : Int)) then
                                            bif decide ((x2.getD (Int.toNat p6.fst) z_Op).Kind ≤ (3 : Int)) then
                                              bif r15.snd.Moved != p6.snd.Moved then some true
                                              else
                                                bif r15.snd.Speed != p6.snd.Speed then some true
                                                else
                                                  bif p6.snd.State == (3 : Int) then
                                                    bif
                                                        decide ((0 : Int) ≤ p6.fst) &&
                                                          decide (p6.fst < (↑x2.length : Int)) then
                                                      bif (x2.getD (Int.toNat p6.fst) z_Op).Kind != (3 : Int) then
                                                        some (r15.snd.State != (3 : Int))
                                                      else some false
                                                    else none
                                                  else some false
                                            else
                                              bif p6.snd.State == (3 : Int) then
                                                bif
                                                    decide ((0 : Int) ≤ p6.fst) &&
                                                      decide (p6.fst < (↑x2.length : Int)) then
                                                  bif (x2.getD (Int.toNat p6.fst) z_Op).Kind != (3 : Int) then
                                                    some (r15.snd.State != (3 : Int))
                                                  else some false
                                                else none
                                              else some false
                                          else none
                                        else
                                          bif p6.snd.State == (3 : Int) then
                                            bif decide ((0 : Int) ≤ p6.fst) && decide (p6.fst < (↑x2.length : Int)) then
                                              bif (x2.getD (Int.toNat p6.fst) z_Op).Kind != (3 : Int) then
                                                some (r15.snd.State != (3 : Int))
                                              else some false
                                            else none
                                          else some false
                                      else none).bind
                                fun (r17 : Bool) =>
                                bif r17 then some (Sum.inr (false, p6.snd)) else some (Sum.inl r15.snd)
                        else none).bind
                      fun (r18 : Drive ⊕ Bool × Drive) =>
                      Sum.elim (fun (p19 : Drive) => some (Sum.inl (IntKind.i64.wrap (p6.fst + (1 : Int)), p19)))
                        (fun (p20 : Bool × Drive) => some (Sum.inr (Sum.inr p20))) r18
                  else some (Sum.inr (Sum.inl p6.snd)))
                ((0 : Int), x1)).bind
            fun (r21 : Drive ⊕ Bool × Drive) =>
            Sum.elim (fun (p22 : Drive) => some true) (fun (p23 : Bool × Drive) => some p23.fst) r21
theorem d_l14_DriveValid (N : Nat) : DenF Try.prog 9 ⟨[.t_Motor, .t_Drive, .l_Op], [.t_bool], [[none]], l14_DriveValid N⟩ :=
  den_of (N := N) (gam := [(10, ⟨[], [.t_bool], [[none]], l14_alive N⟩), (15, ⟨[.t_Motor, .t_Drive], [.t_bool], [[none]], l14_valid N⟩), (16, ⟨[.t_Motor, .t_Drive, .t_i64], [.t_Drive, .t_i64], [[none, none, none, none], [none]], drive_Start N⟩), (20, ⟨[.t_Motor, .t_Drive], [.t_Drive], [[none, none, none, none]], drive_Halt N⟩), (22, ⟨[.t_Motor, .t_Drive], [.t_Drive], [[none, none, none, none]], drive_Emergency N⟩), (18, ⟨[.t_Motor, .t_Drive], [.t_Drive, .t_i64], [[none, none, none, none], [none]], drive_Reset N⟩), (24, ⟨[.t_Motor, .t_Drive, .t_i64], [.t_Drive], [[none, none, none, none]], drive_Step N⟩), (13, ⟨[.t_Motor, .t_Drive], [.t_bool], [[none]], drive_Valid N⟩)]) (txt := []) (hints := [(9, [([0, 0, 1, 1], ⟨[2, 3, 4], [], [(.nrm, [.reg 20 .t_bool [none]])]⟩), ([0, 1, 0, 1, 1, 1], ⟨[2, 3, 4], [.reg 7 .t_i64 [none], .var 4 .t_Drive [none, none, none, none]], [(.ex 0, [.var 4 .t_Drive [none, none, none, none]]), (.ret, [.reg 6 .t_bool [none], .var 4 .t_Drive [none, none, none, none]])]⟩), ([0, 1, 0, 0, 1, 0, 1, 1, 1], ⟨[2, 3, 4, 7], [], [(.nrm, [.var 4 .t_Drive [none, none, none, none]]), (.ret, [.reg 6 .t_bool [none], .var 4 .t_Drive [none, none, none, none]])]⟩), ([1, 0, 1, 0, 0, 1, 0, 0, 1, 0, 1, 1, 1], ⟨[2, 3, 4, 7, 8], [], [(.nrm, [.reg 9 .t_i64 [none], .var 8 .t_Drive [none, none, none, none]])]⟩), ([1, 1, 1, 0, 1, 0, 0, 1, 0, 0, 1, 0, 1, 1, 1], ⟨[2, 3, 4, 7, 8], [], [(.nrm, [.reg 9 .t_i64 [none], .var 8 .t_Drive [none, none, none, none]])]⟩), ([1, 1, 1, 1, 1, 0, 1, 0, 0, 1, 0, 0, 1, 0, 1, 1, 1], ⟨[2, 3, 4, 7, 8], [], [(.nrm, [.reg 9 .t_i64 [none], .var 8 .t_Drive [none, none, none, none]])]⟩), ([1, 1, 1, 1, 1, 1, 1, 0, 1, 0, 0, 1, 0, 0, 1, 0, 1, 1, 1], ⟨[2, 3, 4, 7, 8], [], [(.nrm, [.reg 9 .t_i64 [none], .var 8 .t_Drive [none, none, none, none]])]⟩), ([0, 0, 1, 1, 1, 0, 0, 1, 0, 0, 1, 0, 1, 1, 1], ⟨[2, 3, 4, 7, 8], [], [(.nrm, [.reg 140 .t_bool [none]])]⟩)])]) mixed (.cons (d_l14_alive N) (.cons (d_l14_valid N) (.cons (d_drive_Start N) (.cons (d_drive_Halt N) (.cons (d_drive_Emergency N) (.cons (d_drive_Reset N) (.cons (d_drive_Step N) (.cons (d_drive_Valid N) .nil)))))))) .nil Try.func9 (by kernel_rfl) (by kernel_rfl)
end Go.Proofs.Ytjlhngfmghipoaa
