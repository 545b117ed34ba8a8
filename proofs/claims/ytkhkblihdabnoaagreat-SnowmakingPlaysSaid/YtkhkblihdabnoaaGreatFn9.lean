/- Written by a program (gen.py, asm.py): what each function computes, as a plain function, and that its text computes it. No condition. -/
import Derived.Test.YtkhkblihdabnoaaGreatFn8
import Derived.Test.YtkhkblihdabnoaaGreatCmo
namespace Go.Proofs.YtkhkblihdabnoaaGreat
open Go.Cm Go.Proofs
set_option linter.unusedVariables false
set_option maxRecDepth 100000

def r39_Fill (N : Nat) (x0 : List Pond) (x1 : Int) : Option ((List Pond) × Int × Int) :=
 
  (bif decide (x1 < (0 : Int)) then some true else some (decide (x1 > (86400 : Int)))).bind fun (r2 : Bool) =>
    bif r2 then some ([], (0 : Int), (2 : Int))
    else
      (whileF N
            (fun (p3 : List Pond × Int × Int) =>
              bif decide (p3.snd.snd < (↑x0.length : Int)) then
                bif decide ((0 : Int) ≤ p3.snd.snd) && decide (p3.snd.snd < (↑x0.length : Int)) then
                  (some
                        [Pond.mk (x0.getD (Int.toNat p3.snd.snd) z_Pond).ID
                            (IntKind.i64.wrap
                              ((x0.getD (Int.toNat p3.snd.snd) z_Pond).Volume +
                                min
                                  (IntKind.i64.wrap
                                    ((IntKind.i64.wrap ((x0.getD (Int.toNat p3.snd.snd) z_Pond).Inflow * x1)).tdiv
                                      (3600 : Int)))
                                  (IntKind.i64.wrap
                                    ((x0.getD (Int.toNat p3.snd.snd) z_Pond).Most -
                                      (x0.getD (Int.toNat p3.snd.snd) z_Pond).Volume))))
                            (x0.getD (Int.toNat p3.snd.snd) z_Pond).Least (x0.getD (Int.toNat p3.snd.snd) z_Pond).Most
                            (x0.getD (Int.toNat p3.snd.snd) z_Pond).Inflow]).bind
                    fun (r4 : List Pond) =>
                    bif decide ((List.length p3.fst + r4.length) * 40 ≤ 140737488355328) then
                      (some (p3.fst ++ r4)).bind fun (r5 : List Pond) =>
                        some
                          (Sum.inl
                            (r5,
                              IntKind.i64.wrap
                                (p3.snd.fst +
                                  min
                                    (IntKind.i64.wrap
                                      ((IntKind.i64.wrap ((x0.getD (Int.toNat p3.snd.snd) z_Pond).Inflow * x1)).tdiv
                                        (3600 : Int)))
                                    (IntKind.i64.wrap
                                      ((x0.getD (Int.toNat p3.snd.snd) z_Pond).Most -
                                        (x0.getD (Int.toNat p3.snd.snd) z_Pond).Volume))),
                              IntKind.i64.wrap (p3.snd.snd + (1 : Int))))
                    else none
                else none
              else some (Sum.inr (p3.fst, p3.snd.fst)))
            ([], (0 : Int), (0 : Int))).bind
        fun (r6 : List Pond × Int) => some (r6.fst, r6.snd, (0 : Int))
theorem d_r39_Fill (N : Nat) : DenF Tryz.prog 52 ⟨[.l_Pond, .t_i64], [.l_Pond, .t_i64, .t_i64], [[some 49], [none], [none]], r39_Fill N⟩ :=
  den_of (N := N) (gam := []) (txt := []) (hints := [(52, [([0, 0, 1], ⟨[0, 1], [], [(.nrm, [.reg 17 .t_bool [none]])], []⟩), ([0, 1, 0, 1, 1, 1, 1], ⟨[0, 1], [.reg 7 .l_Pond [some 49], .reg 8 .t_i64 [none], .reg 9 .t_i64 [none]], [(.ex 0, [.reg 7 .l_Pond [some 49], .reg 8 .t_i64 [none]])], []⟩)])]) mixed .nil .nil Tryz.func52 (by kernel_rfl) (by kernel_rfl)

def r13_Common (N : Nat) (x0 x1 x2 x3 : Int) : Option Int :=
 
  bif x2 == (0 : Int) then some x1
  else
    bif IntKind.i64.wrap (IntKind.i64.wrap (x0 * x3) + IntKind.i64.wrap (x2 * x1)) != (0 : Int) then
      some
        (IntKind.i64.wrap
          ((IntKind.i64.wrap (IntKind.i64.wrap (IntKind.i64.wrap (x0 + x2) * x1) * x3)).tdiv
            (IntKind.i64.wrap (IntKind.i64.wrap (x0 * x3) + IntKind.i64.wrap (x2 * x1)))))
    else none
theorem d_r13_Common (N : Nat) : DenF Tryz.prog 128 ⟨[.t_i64, .t_i64, .t_i64, .t_i64], [.t_i64], [[none]], r13_Common N⟩ :=
  den_of (N := N) (gam := []) (txt := []) (hints := []) mixed .nil .nil Tryz.func128 (by kernel_rfl) (by kernel_rfl)

def r13_Make (N : Nat) (x0 : Pack) (x1 : Int) : Option (Pack × Int) :=
 
  (r13_Right N x0).bind fun (r2 : Bool) =>
    bif !r2 then some (z_Pack, (1 : Int))
    else
      (r13_in N x1 (0 : Int) (1000 : Int)).bind fun (r3 : Bool) =>
        bif !r3 then some (z_Pack, (2 : Int))
        else
          bif decide (IntKind.i64.wrap (x0.Machine + x1) > (20000 : Int)) then some (z_Pack, (12 : Int))
          else
            (r13_Common N (IntKind.i64.wrap (x0.Natural + x0.Machine)) x0.Density x1 (450 : Int)).bind fun (r4 : Int) =>
              some (Pack.mk x0.Natural (IntKind.i64.wrap (x0.Machine + x1)) r4, (0 : Int))
theorem d_r13_Make (N : Nat) : DenF Tryz.prog 99 ⟨[.t_Pack, .t_i64], [.t_Pack, .t_i64], [[none, none, none], [none]], r13_Make N⟩ :=
  den_of (N := N) (gam := [(81, ⟨[.t_Pack], [.t_bool], [[none]], r13_Right N⟩), (117, ⟨[.t_i64, .t_i64, .t_i64], [.t_bool], [[none]], r13_in N⟩), (128, ⟨[.t_i64, .t_i64, .t_i64, .t_i64], [.t_i64], [[none]], r13_Common N⟩)]) (txt := []) (hints := []) mixed (.cons (d_r13_Right N) (.cons (d_r13_in N) (.cons (d_r13_Common N) .nil))) .nil Tryz.func99 (by kernel_rfl) (by kernel_rfl)

def r44_fall (N : Nat) (x0 : SnowSystem) (x1 : RunPack) (x2 x3 : Int) : Option (RunPack × Int × Int) :=
 
  (whileF N
        (fun (p4 : Int × Int) =>
          bif decide (p4.snd < (↑x0.Guns.length : Int)) then
            bif decide ((0 : Int) ≤ p4.snd) && decide (p4.snd < (↑x0.Guns.length : Int)) then
              (bif (x0.Guns.getD (Int.toNat p4.snd) z_Gun).Run == x1.Run then
                    bif decide ((0 : Int) ≤ p4.snd) && decide (p4.snd < (↑x0.Guns.length : Int)) then
                      (r44_water N x0 (x0.Guns.getD (Int.toNat p4.snd) z_Gun) x2 x3).bind fun (r5 : Int) =>
                        some (IntKind.i64.wrap (p4.fst + r5))
                    else none
                  else some p4.fst).bind
                fun (r6 : Int) => some (Sum.inl (r6, IntKind.i64.wrap (p4.snd + (1 : Int))))
            else none
          else some (Sum.inr p4.fst))
        ((0 : Int), (0 : Int))).bind
    fun (r7 : Int) =>
    bif x1.Area != (0 : Int) then
      (bif decide (IntKind.i64.wrap (r7.tdiv x1.Area) > (1000 : Int)) then some (1000 : Int)
          else some (IntKind.i64.wrap (r7.tdiv x1.Area))).bind
        fun (r8 : Int) =>
        (r13_Make N x1.Pack r8).bind fun (r9 : Pack × Int) =>
          bif r9.snd != (0 : Int) then some (x1, (0 : Int), (12 : Int))
          else
            some (RunPack.mk x1.Run x1.Area r9.fst, IntKind.i64.wrap (r7 - IntKind.i64.wrap (r8 * x1.Area)), (0 : Int))
    else none
theorem d_r44_fall (N : Nat) : DenF Tryz.prog 53 ⟨[.t_SnowSystem, .t_RunPack, .t_i64, .t_i64], [.t_RunPack, .t_i64, .t_i64], [[none, none, none, none, none], [none], [none]], r44_fall N⟩ :=
  den_of (N := N) (gam := [(50, ⟨[.t_SnowSystem, .t_Gun, .t_i64, .t_i64], [.t_i64], [[none]], r44_water N⟩), (99, ⟨[.t_Pack, .t_i64], [.t_Pack, .t_i64], [[none, none, none], [none]], r13_Make N⟩)]) (txt := []) (hints := [(53, [([0, 1, 0, 1, 1], ⟨[2, 3, 4, 5, 8], [.reg 11 .t_i64 [none], .reg 12 .t_i64 [none]], [(.ex 0, [.reg 11 .t_i64 [none]])], []⟩), ([1, 0, 0, 1, 0, 0, 1, 0, 1, 1], ⟨[2, 3, 4, 5, 8, 12], [], [(.nrm, [.reg 11 .t_i64 [none]])], []⟩), ([1, 0, 1, 1, 1, 1], ⟨[5, 8, 11], [], [(.nrm, [.reg 13 .t_i64 [none]])], []⟩)])]) mixed (.cons (d_r44_water N) (.cons (d_r13_Make N) .nil)) .nil Tryz.func53 (by kernel_rfl) (by kernel_rfl)

def r44_Step (N : Nat) (x0 : SnowSystem) (x1 x2 : Int) : Option (SnowSystem × Int) :=
 
  (bif decide (x2 < (1 : Int)) then some true
      else
        bif decide (x2 > (3600 : Int)) then some true
        else
          bif decide (x0.Time > IntKind.i64.wrap ((20000000 : Int) - x2)) then some true
          else bif decide (x1 < (-1000 : Int)) then some true else some (decide (x1 > (1000 : Int)))).bind
    fun (r3 : Bool) =>
    bif r3 then some (z_SnowSystem, (2 : Int))
    else
      (r44_Why N x0 x1).bind fun (r4 : Int) =>
        bif r4 != (0 : Int) then some (z_SnowSystem, r4)
        else
          (whileF N
                (fun (p5 : Int × Int) =>
                  bif decide (p5.snd < (↑x0.Guns.length : Int)) then
                    bif decide ((0 : Int) ≤ p5.snd) && decide (p5.snd < (↑x0.Guns.length : Int)) then
                      (r44_water N x0 (x0.Guns.getD (Int.toNat p5.snd) z_Gun) x1 x2).bind fun (r6 : Int) =>
                        some (Sum.inl (IntKind.i64.wrap (p5.fst + r6), IntKind.i64.wrap (p5.snd + (1 : Int))))
                    else none
                  else some (Sum.inr p5.fst))
                ((0 : Int), (0 : Int))).bind
            fun (r7 : Int) =>
            (r39_Take N x0.Ponds r7).bind fun (r8 : List Pond × Int) =>
              bif r8.snd != (0 : Int) then some (z_SnowSystem, (8 : Int))
              else
                (r39_Fill N r8.fst x2).bind fun (r9 : List Pond × Int × Int) =>
                  (r44_Power N x0 x1).bind fun (r10 : Int × Int) =>
                    (whileF N
                          (fun (p11 : List RunPack × Int × Int × SnowSystem × SnowSystem) =>
                            bif decide (p11.snd.snd.fst < (↑x0.Packs.length : Int)) then
                              bif
                                  decide ((0 : Int) ≤ p11.snd.snd.fst) &&
                                    decide (p11.snd.snd.fst < (↑x0.Packs.length : Int)) then
                                (r44_fall N x0 (x0.Packs.getD (Int.toNat p11.snd.snd.fst) z_RunPack) x1 x2).bind
                                  fun (r12 : RunPack × Int × Int) =>
                                  bif r12.snd.snd != (0 : Int) then
                                    some (Sum.inr (Sum.inr (r12.snd.snd, p11.snd.snd.snd.snd, p11.snd.snd.snd.snd)))
                                  else
                                    (some [r12.fst]).bind fun (r13 : List RunPack) =>
                                      bif
                                          decide
                                            ((List.length p11.fst + r13.length) * 40 ≤
                                              140737488355328) then
                                        (some (p11.fst ++ r13)).bind fun (r14 : List RunPack) =>
                                          some
                                            (Sum.inl
                                              (r14, IntKind.i64.wrap (p11.snd.fst + r12.snd.fst),
                                                IntKind.i64.wrap (p11.snd.snd.fst + (1 : Int)), p11.snd.snd.snd))
                                      else none
                              else none
                            else some (Sum.inr (Sum.inl (p11.fst, p11.snd.fst, p11.snd.snd.snd))))
                          ([], (0 : Int), (0 : Int), z_SnowSystem, z_SnowSystem)).bind
                      fun (r15 : List RunPack × Int × SnowSystem × SnowSystem ⊕ Int × SnowSystem × SnowSystem) =>
                      Sum.elim
                        (fun (p16 : List RunPack × Int × SnowSystem × SnowSystem) =>
                          (bif decide (IntKind.i64.wrap (x0.Water + r7) > (1125899906842624 : Int)) then some true
                              else
                                bif decide (IntKind.i64.wrap (x0.Lost + p16.snd.fst) > (1125899906842624 : Int)) then
                                  some true
                                else
                                  bif decide (IntKind.i64.wrap (x0.Inflow + r9.snd.fst) > (1125899906842624 : Int)) then
                                    some true
                                  else
                                    some
                                      (decide
                                        (IntKind.i64.wrap (x0.Energy + IntKind.i64.wrap (r10.fst * x2)) >
                                          (1125899906842624 : Int)))).bind
                            fun (r17 : Bool) =>
                            bif r17 then some (p16.snd.snd.snd, (12 : Int))
                            else
                              some
                                (SnowSystem.mk r9.fst x0.Pumps x0.Pipes x0.Kinds x0.Guns p16.fst x0.Pressure x0.Limit
                                    (IntKind.i64.wrap (x0.Time + x2)) (IntKind.i64.wrap (x0.Water + r7))
                                    (IntKind.i64.wrap (x0.Lost + p16.snd.fst))
                                    (IntKind.i64.wrap (x0.Energy + IntKind.i64.wrap (r10.fst * x2)))
                                    (IntKind.i64.wrap (x0.Inflow + r9.snd.fst)),
                                  (0 : Int)))
                        (fun (p18 : Int × SnowSystem × SnowSystem) => some (p18.snd.fst, p18.fst)) r15
theorem d_r44_Step (N : Nat) : DenF Tryz.prog 16 ⟨[.t_SnowSystem, .t_i64, .t_i64], [.t_SnowSystem, .t_i64], [[none, none, none, none, none, none, none, none, none, none, none, none, none], [none]], r44_Step N⟩ :=
  den_of (N := N) (gam := [(13, ⟨[.t_SnowSystem, .t_i64], [.t_i64], [[none]], r44_Why N⟩), (50, ⟨[.t_SnowSystem, .t_Gun, .t_i64, .t_i64], [.t_i64], [[none]], r44_water N⟩), (51, ⟨[.l_Pond, .t_i64], [.l_Pond, .t_i64], [[some 49], [none]], r39_Take N⟩), (52, ⟨[.l_Pond, .t_i64], [.l_Pond, .t_i64, .t_i64], [[some 49], [none], [none]], r39_Fill N⟩), (11, ⟨[.t_SnowSystem, .t_i64], [.t_i64, .t_i64], [[none], [none]], r44_Power N⟩), (53, ⟨[.t_SnowSystem, .t_RunPack, .t_i64, .t_i64], [.t_RunPack, .t_i64, .t_i64], [[none, none, none, none, none], [none], [none]], r44_fall N⟩)]) (txt := []) (hints := [(16, [([0, 0, 1, 1], ⟨[1, 2, 3, 6, 8], [], [(.nrm, [.reg 46 .t_bool [none]])], []⟩), ([0, 1, 0, 1, 1, 1, 1, 1], ⟨[1, 2, 3, 6, 8], [.reg 10 .t_i64 [none], .reg 11 .t_i64 [none]], [(.ex 0, [.reg 10 .t_i64 [none]])], []⟩), ([0, 1, 0, 1, 1, 1, 1, 1, 1, 1, 1, 1, 1, 1, 1], ⟨[1, 2, 3, 6, 8, 10, 12, 14, 16], [.reg 18 .l_RunPack [some 53], .reg 19 .t_i64 [none], .reg 20 .t_i64 [none], .var 6 .t_SnowSystem [none, none, none, none, none, none, none, none, none, none, none, none, none], .var 8 .t_SnowSystem [none, none, none, none, none, none, none, none, none, none, none, none, none]], [(.ex 2, [.reg 18 .l_RunPack [some 53], .reg 19 .t_i64 [none], .var 6 .t_SnowSystem [none, none, none, none, none, none, none, none, none, none, none, none, none], .var 8 .t_SnowSystem [none, none, none, none, none, none, none, none, none, none, none, none, none]]), (.ret, [.reg 7 .t_i64 [none], .var 6 .t_SnowSystem [none, none, none, none, none, none, none, none, none, none, none, none, none], .var 8 .t_SnowSystem [none, none, none, none, none, none, none, none, none, none, none, none, none]])], []⟩), ([0, 0, 1, 1, 1, 1, 1, 1, 1, 1, 1, 1, 1, 1, 1, 1, 1, 1, 1, 1, 1, 1, 1], ⟨[6, 8, 24], [], [(.nrm, [.reg 177 .t_bool [none]])], []⟩)])]) mixed (.cons (d_r44_Why N) (.cons (d_r44_water N) (.cons (d_r39_Take N) (.cons (d_r39_Fill N) (.cons (d_r44_Power N) (.cons (d_r44_fall N) .nil)))))) .nil Tryz.func16 (by kernel_rfl) (by kernel_rfl)

def r42_become (N : Nat) (x0 : Gun) (x1 x2 x3 : Int) : Option (Gun × Int) :=
 
  (bif decide (x2 < x0.Since) then some true else some (decide (x2 > (20000000 : Int)))).bind fun (r4 : Bool) =>
    bif r4 then some (z_Gun, (11 : Int))
    else
      bif decide (x2 < IntKind.i64.wrap (x0.Since + x3)) then some (z_Gun, (13 : Int))
      else some (Gun.mk x0.ID x0.Node x0.Run x0.Kind x1 x2 x0.On x0.Off, (0 : Int))
theorem d_r42_become (N : Nat) : DenF Tryz.prog 100 ⟨[.t_Gun, .t_i64, .t_i64, .t_i64], [.t_Gun, .t_i64], [[none, none, none, none, none, none, none, none], [none]], r42_become N⟩ :=
  den_of (N := N) (gam := []) (txt := []) (hints := [(100, [([0, 0, 1], ⟨[1, 2, 3, 4, 8], [], [(.nrm, [.reg 17 .t_bool [none]])], []⟩)])]) mixed .nil .nil Tryz.func100 (by kernel_rfl) (by kernel_rfl)

def r42_Stop (N : Nat) (x0 : Gun) (x1 : Int) : Option (Gun × Int) :=
 
  bif x0.State != (1 : Int) then some (z_Gun, (10 : Int))
  else (r42_become N x0 (0 : Int) x1 x0.On).bind fun (r2 : Gun × Int) => some r2
theorem d_r42_Stop (N : Nat) : DenF Tryz.prog 54 ⟨[.t_Gun, .t_i64], [.t_Gun, .t_i64], [[none, none, none, none, none, none, none, none], [none]], r42_Stop N⟩ :=
  den_of (N := N) (gam := [(100, ⟨[.t_Gun, .t_i64, .t_i64, .t_i64], [.t_Gun, .t_i64], [[none, none, none, none, none, none, none, none], [none]], r42_become N⟩)]) (txt := []) (hints := []) mixed (.cons (d_r42_become N) .nil) .nil Tryz.func54 (by kernel_rfl) (by kernel_rfl)

def r42_Start (N : Nat) (x0 : Gun) (x1 : Int) : Option (Gun × Int) :=
 
  bif x0.State != (0 : Int) then some (z_Gun, (10 : Int))
  else (r42_become N x0 (1 : Int) x1 x0.Off).bind fun (r2 : Gun × Int) => some r2
theorem d_r42_Start (N : Nat) : DenF Tryz.prog 55 ⟨[.t_Gun, .t_i64], [.t_Gun, .t_i64], [[none, none, none, none, none, none, none, none], [none]], r42_Start N⟩ :=
  den_of (N := N) (gam := [(100, ⟨[.t_Gun, .t_i64, .t_i64, .t_i64], [.t_Gun, .t_i64], [[none, none, none, none, none, none, none, none], [none]], r42_become N⟩)]) (txt := []) (hints := []) mixed (.cons (d_r42_become N) .nil) .nil Tryz.func55 (by kernel_rfl) (by kernel_rfl)

def r44_Switch (N : Nat) (x0 : SnowSystem) (x1 : Int) (x2 : Bool) (x3 : Int) : Option (SnowSystem × Int) :=
 
  (whileF N
        (fun (p4 : Int × Int) =>
          bif decide (p4.snd ≥ (0 : Int)) then
            bif decide ((0 : Int) ≤ p4.snd) && decide (p4.snd < (↑x0.Guns.length : Int)) then
              (bif (x0.Guns.getD (Int.toNat p4.snd) z_Gun).ID == x1 then some p4.snd else some p4.fst).bind
                fun (r5 : Int) => some (Sum.inl (r5, IntKind.i64.wrap (p4.snd - (1 : Int))))
            else none
          else some (Sum.inr p4.fst))
        ((-1 : Int), IntKind.i64.wrap ((↑x0.Guns.length : Int) - (1 : Int)))).bind
    fun (r6 : Int) =>
    bif decide (r6 < (0 : Int)) then some (z_SnowSystem, (8 : Int))
    else
      bif decide ((0 : Int) ≤ r6) && decide (r6 < (↑x0.Guns.length : Int)) then
        (r42_Stop N (x0.Guns.getD r6.toNat z_Gun) x0.Time).bind fun (r7 : Gun × Int) =>
          (bif x2 then
                bif decide ((0 : Int) ≤ r6) && decide (r6 < (↑x0.Guns.length : Int)) then
                  (r42_Start N (x0.Guns.getD r6.toNat z_Gun) x0.Time).bind fun (r8 : Gun × Int) => some (r8.snd, r8.fst)
                else none
              else some (r7.snd, r7.fst)).bind
            fun (r9 : Int × Gun) =>
            bif r9.fst != (0 : Int) then some (z_SnowSystem, r9.fst)
            else
              bif decide ((0 + x0.Guns.length) * 64 ≤ 140737488355328) then
                (some ([] ++ x0.Guns)).bind fun (r10 : List Gun) =>
                  bif decide ((0 : Int) ≤ r6) && decide (r6 < (↑r10.length : Int)) then
                    (some (r10.set r6.toNat r9.snd)).bind fun (r11 : List Gun) =>
                      (bif x2 then
                            (r44_Why N
                                  (SnowSystem.mk x0.Ponds x0.Pumps x0.Pipes x0.Kinds r11 x0.Packs x0.Pressure x0.Limit
                                    x0.Time x0.Water x0.Lost x0.Energy x0.Inflow)
                                  x3).bind
                              fun (r12 : Int) =>
                              bif r12 != (0 : Int) then some (Sum.inr (r12, z_SnowSystem))
                              else some (Sum.inl z_SnowSystem)
                          else some (Sum.inl z_SnowSystem)).bind
                        fun (r13 : SnowSystem ⊕ Int × SnowSystem) =>
                        Sum.elim
                          (fun (p14 : SnowSystem) =>
                            some
                              (SnowSystem.mk x0.Ponds x0.Pumps x0.Pipes x0.Kinds r11 x0.Packs x0.Pressure x0.Limit
                                  x0.Time x0.Water x0.Lost x0.Energy x0.Inflow,
                                (0 : Int)))
                          (fun (p15 : Int × SnowSystem) => some (p15.snd, p15.fst)) r13
                  else none
              else none
      else none
theorem d_r44_Switch (N : Nat) : DenF Tryz.prog 17 ⟨[.t_SnowSystem, .t_i64, .t_bool, .t_i64], [.t_SnowSystem, .t_i64], [[none, none, none, none, none, none, none, none, none, none, none, none, none], [none]], r44_Switch N⟩ :=
  den_of (N := N) (gam := [(54, ⟨[.t_Gun, .t_i64], [.t_Gun, .t_i64], [[none, none, none, none, none, none, none, none], [none]], r42_Stop N⟩), (55, ⟨[.t_Gun, .t_i64], [.t_Gun, .t_i64], [[none, none, none, none, none, none, none, none], [none]], r42_Start N⟩), (13, ⟨[.t_SnowSystem, .t_i64], [.t_i64], [[none]], r44_Why N⟩)]) (txt := []) (hints := [(17, [([0, 1, 0, 1, 1], ⟨[1, 2, 3, 4, 8], [.reg 10 .t_i64 [none], .reg 11 .t_i64 [none]], [(.ex 0, [.reg 10 .t_i64 [none]])], []⟩), ([1, 0, 0, 1, 0, 0, 1, 0, 1, 1], ⟨[1, 2, 3, 4, 8, 11], [], [(.nrm, [.reg 10 .t_i64 [none]])], []⟩), ([1, 0, 1, 1, 1, 1, 1], ⟨[2, 3, 4, 8, 10, 12], [], [(.nrm, [.reg 13 .t_i64 [none], .var 12 .t_Gun [none, none, none, none, none, none, none, none]])], []⟩), ([1, 0, 1, 1, 1, 1, 1, 1, 1, 1, 1, 1], ⟨[4, 8], [], [(.nrm, [.var 8 .t_SnowSystem [none, none, none, none, none, none, none, none, none, none, none, none, none]]), (.ret, [.reg 9 .t_i64 [none], .var 8 .t_SnowSystem [none, none, none, none, none, none, none, none, none, none, none, none, none]])], []⟩)])]) mixed (.cons (d_r42_Stop N) (.cons (d_r42_Start N) (.cons (d_r44_Why N) .nil))) .nil Tryz.func17 (by kernel_rfl) (by kernel_rfl)

def r44_SamePacks (N : Nat) (x0 x1 : List RunPack) : Option Bool :=
 
  bif (↑x0.length : Int) != (↑x1.length : Int) then some false
  else
    (whileF N
          (fun (p2 : Int) =>
            bif decide (p2 < (↑x0.length : Int)) then
              bif decide ((0 : Int) ≤ p2) && decide (p2 < (↑x0.length : Int)) then
                bif decide ((0 : Int) ≤ p2) && decide (p2 < (↑x1.length : Int)) then
                  bif
                      !((x0.getD p2.toNat z_RunPack).Run == (x1.getD p2.toNat z_RunPack).Run &&
                          ((x0.getD p2.toNat z_RunPack).Area == (x1.getD p2.toNat z_RunPack).Area &&
                            ((x0.getD p2.toNat z_RunPack).Pack.Natural == (x1.getD p2.toNat z_RunPack).Pack.Natural &&
                                ((x0.getD p2.toNat z_RunPack).Pack.Machine ==
                                    (x1.getD p2.toNat z_RunPack).Pack.Machine &&
                                  ((x0.getD p2.toNat z_RunPack).Pack.Density ==
                                      (x1.getD p2.toNat z_RunPack).Pack.Density &&
                                    true)) &&
                              true))) then
                    some (Sum.inr (Sum.inr false))
                  else some (Sum.inl (IntKind.i64.wrap (p2 + (1 : Int))))
                else none
              else none
            else some (Sum.inr (Sum.inl ())))
          (0 : Int)).bind
      fun (r3 : Unit ⊕ Bool) => Sum.elim (fun (p4 : Unit) => some true) (fun (p5 : Bool) => some p5) r3
theorem d_r44_SamePacks (N : Nat) : DenF Tryz.prog 56 ⟨[.l_RunPack, .l_RunPack], [.t_bool], [[none]], r44_SamePacks N⟩ :=
  den_of (N := N) (gam := []) (txt := []) (hints := [(56, [([0, 1, 0, 1, 1], ⟨[0, 1], [.reg 5 .t_i64 [none]], [(.ex 0, []), (.ret, [.reg 4 .t_bool [none]])], []⟩)])]) mixed .nil .nil Tryz.func56 (by kernel_rfl) (by kernel_rfl)

def r44_sameKind (N : Nat) (x0 x1 : GunKind) : Option Bool :=
 
  (bif x0.ID != x1.ID then some true
      else
        bif x0.Power != x1.Power then some true
        else
          bif x0.Pressure != x1.Pressure then some true
          else some ((↑x0.Output.length : Int) != (↑x1.Output.length : Int))).bind
    fun (r2 : Bool) =>
    bif r2 then some false
    else
      (whileF N
            (fun (p3 : Int) =>
              bif decide (p3 < (↑x0.Output.length : Int)) then
                bif decide ((0 : Int) ≤ p3) && decide (p3 < (↑x0.Output.length : Int)) then
                  bif decide ((0 : Int) ≤ p3) && decide (p3 < (↑x1.Output.length : Int)) then
                    bif
                        !((x0.Output.getD p3.toNat z_Point).X == (x1.Output.getD p3.toNat z_Point).X &&
                            ((x0.Output.getD p3.toNat z_Point).Y == (x1.Output.getD p3.toNat z_Point).Y && true)) then
                      some (Sum.inr (Sum.inr false))
                    else some (Sum.inl (IntKind.i64.wrap (p3 + (1 : Int))))
                  else none
                else none
              else some (Sum.inr (Sum.inl ())))
            (0 : Int)).bind
        fun (r4 : Unit ⊕ Bool) => Sum.elim (fun (p5 : Unit) => some true) (fun (p6 : Bool) => some p6) r4
theorem d_r44_sameKind (N : Nat) : DenF Tryz.prog 57 ⟨[.t_GunKind, .t_GunKind], [.t_bool], [[none]], r44_sameKind N⟩ :=
  den_of (N := N) (gam := []) (txt := []) (hints := [(57, [([0, 0, 1], ⟨[2, 3], [], [(.nrm, [.reg 33 .t_bool [none]])], []⟩), ([0, 1, 0, 1, 1], ⟨[2, 3], [.reg 5 .t_i64 [none]], [(.ex 0, []), (.ret, [.reg 4 .t_bool [none]])], []⟩)])]) mixed .nil .nil Tryz.func57 (by kernel_rfl) (by kernel_rfl)

def r44_Same (N : Nat) (x0 x1 : SnowSystem) : Option Bool :=
 
  (bif (↑x0.Ponds.length : Int) != (↑x1.Ponds.length : Int) then some true
      else
        bif (↑x0.Pumps.length : Int) != (↑x1.Pumps.length : Int) then some true
        else
          bif (↑x0.Pipes.length : Int) != (↑x1.Pipes.length : Int) then some true
          else
            bif (↑x0.Kinds.length : Int) != (↑x1.Kinds.length : Int) then some true
            else
              bif (↑x0.Guns.length : Int) != (↑x1.Guns.length : Int) then some true
              else (r44_SamePacks N x0.Packs x1.Packs).bind fun (r2 : Bool) => some !r2).bind
    fun (r3 : Bool) =>
    bif r3 then some false
    else
      (whileF N
            (fun (p4 : Int) =>
              bif decide (p4 < (↑x0.Ponds.length : Int)) then
                bif decide ((0 : Int) ≤ p4) && decide (p4 < (↑x0.Ponds.length : Int)) then
                  bif decide ((0 : Int) ≤ p4) && decide (p4 < (↑x1.Ponds.length : Int)) then
                    bif
                        !((x0.Ponds.getD p4.toNat z_Pond).ID == (x1.Ponds.getD p4.toNat z_Pond).ID &&
                            ((x0.Ponds.getD p4.toNat z_Pond).Volume == (x1.Ponds.getD p4.toNat z_Pond).Volume &&
                              ((x0.Ponds.getD p4.toNat z_Pond).Least == (x1.Ponds.getD p4.toNat z_Pond).Least &&
                                ((x0.Ponds.getD p4.toNat z_Pond).Most == (x1.Ponds.getD p4.toNat z_Pond).Most &&
                                  ((x0.Ponds.getD p4.toNat z_Pond).Inflow == (x1.Ponds.getD p4.toNat z_Pond).Inflow &&
                                    true))))) then
                      some (Sum.inr (Sum.inr false))
                    else some (Sum.inl (IntKind.i64.wrap (p4 + (1 : Int))))
                  else none
                else none
              else some (Sum.inr (Sum.inl ())))
            (0 : Int)).bind
        fun (r5 : Unit ⊕ Bool) =>
        Sum.elim
          (fun (p6 : Unit) =>
            (whileF N
                  (fun (p7 : Int) =>
                    bif decide (p7 < (↑x0.Pumps.length : Int)) then
                      bif decide ((0 : Int) ≤ p7) && decide (p7 < (↑x0.Pumps.length : Int)) then
                        bif decide ((0 : Int) ≤ p7) && decide (p7 < (↑x1.Pumps.length : Int)) then
                          bif
                              !((x0.Pumps.getD p7.toNat z_Pump).ID == (x1.Pumps.getD p7.toNat z_Pump).ID &&
                                  ((x0.Pumps.getD p7.toNat z_Pump).Flow == (x1.Pumps.getD p7.toNat z_Pump).Flow &&
                                    ((x0.Pumps.getD p7.toNat z_Pump).Power == (x1.Pumps.getD p7.toNat z_Pump).Power &&
                                      true))) then
                            some (Sum.inr (Sum.inr false))
                          else some (Sum.inl (IntKind.i64.wrap (p7 + (1 : Int))))
                        else none
                      else none
                    else some (Sum.inr (Sum.inl ())))
                  (0 : Int)).bind
              fun (r8 : Unit ⊕ Bool) =>
              Sum.elim
                (fun (p9 : Unit) =>
                  (whileF N
                        (fun (p10 : Int) =>
                          bif decide (p10 < (↑x0.Pipes.length : Int)) then
                            bif decide ((0 : Int) ≤ p10) && decide (p10 < (↑x0.Pipes.length : Int)) then
                              bif decide ((0 : Int) ≤ p10) && decide (p10 < (↑x1.Pipes.length : Int)) then
                                bif
                                    !((x0.Pipes.getD p10.toNat z_Pipe).ID == (x1.Pipes.getD p10.toNat z_Pipe).ID &&
                                        ((x0.Pipes.getD p10.toNat z_Pipe).From ==
                                            (x1.Pipes.getD p10.toNat z_Pipe).From &&
                                          ((x0.Pipes.getD p10.toNat z_Pipe).To == (x1.Pipes.getD p10.toNat z_Pipe).To &&
                                            ((x0.Pipes.getD p10.toNat z_Pipe).Loss ==
                                                (x1.Pipes.getD p10.toNat z_Pipe).Loss &&
                                              ((x0.Pipes.getD p10.toNat z_Pipe).Rise ==
                                                  (x1.Pipes.getD p10.toNat z_Pipe).Rise &&
                                                true))))) then
                                  some (Sum.inr (Sum.inr false))
                                else some (Sum.inl (IntKind.i64.wrap (p10 + (1 : Int))))
                              else none
                            else none
                          else some (Sum.inr (Sum.inl ())))
                        (0 : Int)).bind
                    fun (r11 : Unit ⊕ Bool) =>
                    Sum.elim
                      (fun (p12 : Unit) =>
                        (whileF N
                              (fun (p13 : Int) =>
                                bif decide (p13 < (↑x0.Guns.length : Int)) then
                                  bif decide ((0 : Int) ≤ p13) && decide (p13 < (↑x0.Guns.length : Int)) then
                                    bif decide ((0 : Int) ≤ p13) && decide (p13 < (↑x1.Guns.length : Int)) then
                                      bif
                                          !((x0.Guns.getD p13.toNat z_Gun).ID == (x1.Guns.getD p13.toNat z_Gun).ID &&
                                              ((x0.Guns.getD p13.toNat z_Gun).Node ==
                                                  (x1.Guns.getD p13.toNat z_Gun).Node &&
                                                ((x0.Guns.getD p13.toNat z_Gun).Run ==
                                                    (x1.Guns.getD p13.toNat z_Gun).Run &&
                                                  ((x0.Guns.getD p13.toNat z_Gun).Kind ==
                                                      (x1.Guns.getD p13.toNat z_Gun).Kind &&
                                                    ((x0.Guns.getD p13.toNat z_Gun).State ==
                                                        (x1.Guns.getD p13.toNat z_Gun).State &&
                                                      ((x0.Guns.getD p13.toNat z_Gun).Since ==
                                                          (x1.Guns.getD p13.toNat z_Gun).Since &&
                                                        ((x0.Guns.getD p13.toNat z_Gun).On ==
                                                            (x1.Guns.getD p13.toNat z_Gun).On &&
                                                          ((x0.Guns.getD p13.toNat z_Gun).Off ==
                                                              (x1.Guns.getD p13.toNat z_Gun).Off &&
                                                            true)))))))) then
                                        some (Sum.inr (Sum.inr false))
                                      else some (Sum.inl (IntKind.i64.wrap (p13 + (1 : Int))))
                                    else none
                                  else none
                                else some (Sum.inr (Sum.inl ())))
                              (0 : Int)).bind
                          fun (r14 : Unit ⊕ Bool) =>
                          Sum.elim
                            (fun (p15 : Unit) =>
                              (whileF N
                                    (fun (p16 : Int) =>
                                      bif decide (p16 < (↑x0.Kinds.length : Int)) then
                                        bif decide ((0 : Int) ≤ p16) && decide (p16 < (↑x0.Kinds.length : Int)) then
                                          bif decide ((0 : Int) ≤ p16) && decide (p16 < (↑x1.Kinds.length : Int)) then
                                            (r44_sameKind N (x0.Kinds.getD p16.toNat z_GunKind)
                                                  (x1.Kinds.getD p16.toNat z_GunKind)).bind
                                              fun (r17 : Bool) =>
                                              bif !r17 then some (Sum.inr (Sum.inr false))
                                              else some (Sum.inl (IntKind.i64.wrap (p16 + (1 : Int))))
                                          else none
                                        else none
                                      else some (Sum.inr (Sum.inl ())))
                                    (0 : Int)).bind
                                fun (r18 : Unit ⊕ Bool) =>
                                Sum.elim
                                  (fun (p19 : Unit) =>
                                    (bif x0.Pressure == x1.Pressure then
                                          bif x0.Limit == x1.Limit then
                                            bif x0.Time == x1.Time then
                                              bif x0.Water == x1.Water then
                                                bif x0.Lost == x1.Lost then
                                                  bif x0.Energy == x1.Energy then some (x0.Inflow == x1.Inflow)
                                                  else some false
                                                else some false
                                              else some false
                                            else some false
                                          else some false
                                        else some false).bind
                                      fun (r20 : Bool) => some r20)
                                  (fun (p21 : Bool) => some p21) r18)
                            (fun (p22 : Bool) => some p22) r14)
                      (fun (p23 : Bool) => some p23) r11)
                (fun (p24 : Bool) => some p24) r8)
          (fun (p25 : Bool) => some p25) r5
theorem d_r44_Same (N : Nat) : DenF Tryz.prog 18 ⟨[.t_SnowSystem, .t_SnowSystem], [.t_bool], [[none]], r44_Same N⟩ :=
  den_of (N := N) (gam := [(56, ⟨[.l_RunPack, .l_RunPack], [.t_bool], [[none]], r44_SamePacks N⟩), (57, ⟨[.t_GunKind, .t_GunKind], [.t_bool], [[none]], r44_sameKind N⟩)]) (txt := []) (hints := [(18, [([0, 0, 1], ⟨[2, 3], [], [(.nrm, [.reg 60 .t_bool [none]])], []⟩), ([0, 1, 0, 1, 1], ⟨[2, 3], [.reg 5 .t_i64 [none]], [(.ex 0, []), (.ret, [.reg 4 .t_bool [none]])], []⟩), ([0, 1, 0, 1, 1, 1], ⟨[2, 3], [.reg 6 .t_i64 [none]], [(.ex 2, []), (.ret, [.reg 4 .t_bool [none]])], []⟩), ([0, 1, 0, 1, 1, 1, 1], ⟨[2, 3], [.reg 7 .t_i64 [none]], [(.ex 4, []), (.ret, [.reg 4 .t_bool [none]])], []⟩), ([0, 1, 0, 1, 1, 1, 1, 1], ⟨[2, 3], [.reg 8 .t_i64 [none]], [(.ex 6, []), (.ret, [.reg 4 .t_bool [none]])], []⟩), ([0, 1, 0, 1, 1, 1, 1, 1, 1], ⟨[2, 3], [.reg 9 .t_i64 [none]], [(.ex 8, []), (.ret, [.reg 4 .t_bool [none]])], []⟩), ([0, 1, 1, 1, 1, 1, 1, 1], ⟨[], [], [(.nrm, [.reg 4 .t_bool [none]])], []⟩)])]) mixed (.cons (d_r44_SamePacks N) (.cons (d_r44_sameKind N) .nil)) .nil Tryz.func18 (by kernel_rfl) (by kernel_rfl)

def l44_SnowmakingPlays (N : Nat) (x0 : SnowSystem) (x1 : List Op) : Option Bool :=
 
  (l44_alive N).bind fun (r2 : Bool) =>
    bif !r2 then some false
    else
      ((l44_right N x0).bind fun (r3 : Bool) =>
            bif !r3 then some true else some (decide ((↑x1.length : Int) > (30 : Int)))).bind
        fun (r4 : Bool) =>
        bif r4 then some true
        else
          (whileF N
                (fun (p5 : Int × SnowSystem) =>
                  bif decide (p5.fst < (↑x1.length : Int)) then
                    bif decide ((0 : Int) ≤ p5.fst) && decide (p5.fst < (↑x1.length : Int)) then
                      (l44_done N p5.snd (x1.getD (Int.toNat p5.fst) z_Op)).bind fun (r6 : SnowSystem × Int) =>
                        bif decide ((0 : Int) ≤ p5.fst) && decide (p5.fst < (↑x1.length : Int)) then
                          bif decide ((0 : Int) ≤ p5.fst) && decide (p5.fst < (↑x1.length : Int)) then
                            (r44_Step N p5.snd (x1.getD (Int.toNat p5.fst) z_Op).Wet
                                  (x1.getD (Int.toNat p5.fst) z_Op).N).bind
                              fun (r7 : SnowSystem × Int) =>
                              bif decide ((0 : Int) ≤ p5.fst) && decide (p5.fst < (↑x1.length : Int)) then
                                (bif (x1.getD (Int.toNat p5.fst) z_Op).Kind != (0 : Int) then
                                      bif decide ((0 : Int) ≤ p5.fst) && decide (p5.fst < (↑x1.length : Int)) then
                                        bif decide ((0 : Int) ≤ p5.fst) && decide (p5.fst < (↑x1.length : Int)) then
                                          bif decide ((0 : Int) ≤ p5.fst) && decide (p5.fst < (↑x1.length : Int)) then
                                            (r44_Switch N p5.snd (x1.getD (Int.toNat p5.fst) z_Op).N
                                                  ((x1.getD (Int.toNat p5.fst) z_Op).Kind == (1 : Int))
                                                  (x1.getD (Int.toNat p5.fst) z_Op).Wet).bind
                                              fun (r8 : SnowSystem × Int) => some (r8.snd, r8.fst)
                                          else none
                                        else none
                                      else none
                                    else some (r7.snd, r7.fst)).bind
                                  fun (r9 : Int × SnowSystem) =>
                                  (bif r6.snd != r9.fst then some true
                                      else (r44_Same N r6.fst r9.snd).bind fun (r10 : Bool) => some !r10).bind
                                    fun (r11 : Bool) =>
                                    bif r11 then some (Sum.inr (Sum.inr (false, p5.snd)))
                                    else
                                      (bif r9.fst == (0 : Int) then some r9.snd else some p5.snd).bind
                                        fun (r12 : SnowSystem) =>
                                        some (Sum.inl (IntKind.i64.wrap (p5.fst + (1 : Int)), r12))
                              else none
                          else none
                        else none
                    else none
                  else some (Sum.inr (Sum.inl p5.snd)))
                ((0 : Int), x0)).bind
            fun (r13 : SnowSystem ⊕ Bool × SnowSystem) =>
            Sum.elim (fun (p14 : SnowSystem) => some true) (fun (p15 : Bool × SnowSystem) => some p15.fst) r13
theorem d_l44_SnowmakingPlays (N : Nat) : DenF Tryz.prog 4 ⟨[.t_SnowSystem, .l_Op], [.t_bool], [[none]], l44_SnowmakingPlays N⟩ :=
  den_of (N := N) (gam := [(6, ⟨[], [.t_bool], [[none]], l44_alive N⟩), (14, ⟨[.t_SnowSystem], [.t_bool], [[none]], l44_right N⟩), (15, ⟨[.t_SnowSystem, .t_Op], [.t_SnowSystem, .t_i64], [[none, none, none, none, none, none, none, none, none, none, none, none, none], [none]], l44_done N⟩), (16, ⟨[.t_SnowSystem, .t_i64, .t_i64], [.t_SnowSystem, .t_i64], [[none, none, none, none, none, none, none, none, none, none, none, none, none], [none]], r44_Step N⟩), (17, ⟨[.t_SnowSystem, .t_i64, .t_bool, .t_i64], [.t_SnowSystem, .t_i64], [[none, none, none, none, none, none, none, none, none, none, none, none, none], [none]], r44_Switch N⟩), (18, ⟨[.t_SnowSystem, .t_SnowSystem], [.t_bool], [[none]], r44_Same N⟩)]) (txt := []) (hints := [(4, [([0, 0, 1, 1], ⟨[1, 2], [], [(.nrm, [.reg 19 .t_bool [none]])], []⟩), ([0, 1, 0, 1, 1, 1], ⟨[1, 2], [.reg 5 .t_i64 [none], .var 2 .t_SnowSystem [none, none, none, none, none, none, none, none, none, none, none, none, none]], [(.ex 0, [.var 2 .t_SnowSystem [none, none, none, none, none, none, none, none, none, none, none, none, none]]), (.ret, [.reg 4 .t_bool [none], .var 2 .t_SnowSystem [none, none, none, none, none, none, none, none, none, none, none, none, none]])], []⟩), ([1, 0, 1, 1, 0, 0, 1, 0, 0, 1, 0, 1, 1, 1], ⟨[1, 2, 5, 6, 7, 8], [], [(.nrm, [.reg 9 .t_i64 [none], .var 8 .t_SnowSystem [none, none, none, none, none, none, none, none, none, none, none, none, none]])], []⟩), ([0, 0, 1, 1, 1, 0, 0, 1, 0, 0, 1, 0, 1, 1, 1], ⟨[1, 2, 5, 8, 9], [], [(.nrm, [.reg 85 .t_bool [none]])], []⟩), ([1, 1, 1, 1, 1, 0, 0, 1, 0, 0, 1, 0, 1, 1, 1], ⟨[1, 2, 5], [], [(.nrm, [.var 2 .t_SnowSystem [none, none, none, none, none, none, none, none, none, none, none, none, none]])], []⟩)])]) mixed (.cons (d_l44_alive N) (.cons (d_l44_right N) (.cons (d_l44_done N) (.cons (d_r44_Step N) (.cons (d_r44_Switch N) (.cons (d_r44_Same N) .nil)))))) .nil Tryz.func4 (by kernel_rfl) (by kernel_rfl)

def r39_Total (N : Nat) (x0 : List Pond) : Option Int :=
 
  (whileF N
        (fun (p1 : Int × Int) =>
          bif decide (p1.snd < (↑x0.length : Int)) then
            bif decide ((0 : Int) ≤ p1.snd) && decide (p1.snd < (↑x0.length : Int)) then
              some
                (Sum.inl
                  (IntKind.i64.wrap (p1.fst + (x0.getD (Int.toNat p1.snd) z_Pond).Volume),
                    IntKind.i64.wrap (p1.snd + (1 : Int))))
            else none
          else some (Sum.inr p1.fst))
        ((0 : Int), (0 : Int))).bind
    fun (r2 : Int) => some r2
theorem d_r39_Total (N : Nat) : DenF Tryz.prog 59 ⟨[.l_Pond], [.t_i64], [[none]], r39_Total N⟩ :=
  den_of (N := N) (gam := []) (txt := []) (hints := [(59, [([0, 1, 0, 1, 1], ⟨[0], [.reg 3 .t_i64 [none], .reg 4 .t_i64 [none]], [(.ex 0, [.reg 3 .t_i64 [none]])], []⟩)])]) mixed .nil .nil Tryz.func59 (by kernel_rfl) (by kernel_rfl)
end Go.Proofs.YtkhkblihdabnoaaGreat
