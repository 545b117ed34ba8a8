/- Written by a program (gen.py, asm.py): what each function computes, as a plain function, and that its text computes it. No condition. -/
import Derived.Test.YtkhkblihdabnoaaGreatFn4
import Derived.Test.YtkhkblihdabnoaaGreatCmo
namespace Go.Proofs.YtkhkblihdabnoaaGreat
open Go.Cm Go.Proofs
set_option linter.unusedVariables false
set_option maxRecDepth 100000

def pond_Take (N : Nat) (x0 : List Pond) (x1 : Int) : Option ((List Pond) × Int) :=
 
  bif decide (x1 < (0 : Int)) then some ([], (2 : Int))
  else
    (pond_Spare N x0).bind fun (r2 : Int) =>
      bif decide (x1 > r2) then some ([], (9 : Int))
      else
        (sl_Clone_Pond N x0).bind fun (r3 : List Pond) =>
          bif x1 == (0 : Int) then some (r3, (0 : Int))
          else
            bif
                true &&
                  (decide ((↑x0.length : Int) ≤ (↑x0.length : Int)) &&
                    decide ((↑x0.length : Int) * (8 : Int) ≤ (140737488355328 : Int))) then
              (some (List.replicate (↑x0.length : Int).toNat (0 : Int))).bind fun (r4 : List Int) =>
                (whileF N
                      (fun (p5 : Int × List Int) =>
                        bif decide (p5.fst < (↑x0.length : Int)) then
                          bif decide ((0 : Int) ≤ p5.fst) && decide (p5.fst < (↑x0.length : Int)) then
                            bif decide ((0 : Int) ≤ p5.fst) && decide (p5.fst < (↑(List.length p5.snd) : Int)) then
                              (some
                                    (List.set p5.snd (Int.toNat p5.fst)
                                      (IntKind.i64.wrap
                                        ((x0.getD (Int.toNat p5.fst) z_Pond).Volume -
                                          (x0.getD (Int.toNat p5.fst) z_Pond).Least)))).bind
                                fun (r6 : List Int) => some (Sum.inl (IntKind.i64.wrap (p5.fst + (1 : Int)), r6))
                            else none
                          else none
                        else some (Sum.inr p5.snd))
                      ((0 : Int), r4)).bind
                  fun (r7 : List Int) =>
                  (split_Split N x1 r7).bind fun (r8 : List Int × Int) =>
                    bif r8.snd != (0 : Int) then some ([], r8.snd)
                    else
                      (whileF N
                            (fun (p9 : Int × List Pond) =>
                              bif decide (p9.fst < (↑(List.length r8.fst) : Int)) then
                                bif decide ((0 : Int) ≤ p9.fst) && decide (p9.fst < (↑(List.length r8.fst) : Int)) then
                                  bif
                                      decide ((0 : Int) ≤ p9.fst) &&
                                        decide (p9.fst < (↑(List.length p9.snd) : Int)) then
                                    bif
                                        decide ((0 : Int) ≤ p9.fst) &&
                                          decide (p9.fst < (↑(List.length p9.snd) : Int)) then
                                      (some
                                            (List.set p9.snd (Int.toNat p9.fst)
                                              (Pond.mk (List.getD p9.snd (Int.toNat p9.fst) z_Pond).ID
                                                (IntKind.i64.wrap
                                                  ((List.getD p9.snd (Int.toNat p9.fst) z_Pond).Volume -
                                                    List.getD r8.fst (Int.toNat p9.fst) (0 : Int)))
                                                (List.getD p9.snd (Int.toNat p9.fst) z_Pond).Least
                                                (List.getD p9.snd (Int.toNat p9.fst) z_Pond).Most
                                                (List.getD p9.snd (Int.toNat p9.fst) z_Pond).Inflow))).bind
                                        fun (r10 : List Pond) =>
                                        some (Sum.inl (IntKind.i64.wrap (p9.fst + (1 : Int)), r10))
                                    else none
                                  else none
                                else none
                              else some (Sum.inr p9.snd))
                            ((0 : Int), r3)).bind
                        fun (r11 : List Pond) => some (r11, (0 : Int))
            else none
theorem d_pond_Take (N : Nat) : DenF Tryz.prog 67 ⟨[.l_Pond, .t_i64], [.l_Pond, .t_i64], [[some 49], [none]], pond_Take N⟩ :=
  den_of (N := N) (gam := [(66, ⟨[.l_Pond], [.t_i64], [[none]], pond_Spare N⟩), (103, ⟨[.l_Pond], [.l_Pond], [[some 49]], sl_Clone_Pond N⟩), (110, ⟨[.t_i64, .l_i64], [.l_i64, .t_i64], [[some 3], [none]], split_Split N⟩)]) (txt := []) (hints := [(67, [([0, 1, 0, 1, 1, 1, 1, 1, 1], ⟨[1, 6, 7, 28, 29], [.reg 30 .t_i64 [none], .rowr 7 .l_i64], [(.ex 0, [.rowr 7 .l_i64])], []⟩), ([0, 1, 0, 1, 1, 1, 1, 1, 1, 1, 1, 1], ⟨[6, 53, 54], [.reg 55 .t_i64 [none], .rowr 6 .l_Pond], [(.ex 2, [.rowr 6 .l_Pond])], []⟩)])]) mixed (.cons (d_pond_Spare N) (.cons (d_sl_Clone_Pond N) (.cons (d_split_Split N) .nil))) .nil Tryz.func67 (by kernel_rfl) (by kernel_rfl)

def pond_Fill (N : Nat) (x0 : List Pond) (x1 : Int) : Option ((List Pond) × Int × Int) :=
 
  (bif decide (x1 < (0 : Int)) then some true else some (decide (x1 > (86400 : Int)))).bind fun (r2 : Bool) =>
    bif r2 then some ([], (0 : Int), (2 : Int))
    else
      (sl_Clone_Pond N x0).bind fun (r3 : List Pond) =>
        (whileF N
              (fun (p4 : Int × Int × List Pond) =>
                bif decide (p4.snd.fst < (↑x0.length : Int)) then
                  bif decide ((0 : Int) ≤ p4.snd.fst) && decide (p4.snd.fst < (↑x0.length : Int)) then
                    bif decide ((0 : Int) ≤ p4.snd.fst) && decide (p4.snd.fst < (↑(List.length p4.snd.snd) : Int)) then
                      bif
                          decide ((0 : Int) ≤ p4.snd.fst) &&
                            decide (p4.snd.fst < (↑(List.length p4.snd.snd) : Int)) then
                        (some
                              (List.set p4.snd.snd (Int.toNat p4.snd.fst)
                                (Pond.mk (List.getD p4.snd.snd (Int.toNat p4.snd.fst) z_Pond).ID
                                  (IntKind.i64.wrap
                                    ((List.getD p4.snd.snd (Int.toNat p4.snd.fst) z_Pond).Volume +
                                      min
                                        (IntKind.i64.wrap
                                          ((IntKind.i64.wrap ((x0.getD (Int.toNat p4.snd.fst) z_Pond).Inflow * x1)).tdiv
                                            (3600 : Int)))
                                        (IntKind.i64.wrap
                                          ((x0.getD (Int.toNat p4.snd.fst) z_Pond).Most -
                                            (x0.getD (Int.toNat p4.snd.fst) z_Pond).Volume))))
                                  (List.getD p4.snd.snd (Int.toNat p4.snd.fst) z_Pond).Least
                                  (List.getD p4.snd.snd (Int.toNat p4.snd.fst) z_Pond).Most
                                  (List.getD p4.snd.snd (Int.toNat p4.snd.fst) z_Pond).Inflow))).bind
                          fun (r5 : List Pond) =>
                          some
                            (Sum.inl
                              (IntKind.i64.wrap
                                  (p4.fst +
                                    min
                                      (IntKind.i64.wrap
                                        ((IntKind.i64.wrap ((x0.getD (Int.toNat p4.snd.fst) z_Pond).Inflow * x1)).tdiv
                                          (3600 : Int)))
                                      (IntKind.i64.wrap
                                        ((x0.getD (Int.toNat p4.snd.fst) z_Pond).Most -
                                          (x0.getD (Int.toNat p4.snd.fst) z_Pond).Volume))),
                                IntKind.i64.wrap (p4.snd.fst + (1 : Int)), r5))
                      else none
                    else none
                  else none
                else some (Sum.inr (p4.fst, p4.snd.snd)))
              ((0 : Int), (0 : Int), r3)).bind
          fun (r6 : Int × List Pond) => some (r6.snd, r6.fst, (0 : Int))
theorem d_pond_Fill (N : Nat) : DenF Tryz.prog 68 ⟨[.l_Pond, .t_i64], [.l_Pond, .t_i64, .t_i64], [[some 49], [none], [none]], pond_Fill N⟩ :=
  den_of (N := N) (gam := [(103, ⟨[.l_Pond], [.l_Pond], [[some 49]], sl_Clone_Pond N⟩)]) (txt := []) (hints := [(68, [([0, 0, 1], ⟨[0, 1], [], [(.nrm, [.reg 17 .t_bool [none]])], []⟩), ([0, 1, 0, 1, 1, 1, 1], ⟨[1, 7, 20, 21], [.reg 8 .t_i64 [none], .reg 22 .t_i64 [none], .rowr 7 .l_Pond], [(.ex 0, [.reg 8 .t_i64 [none], .rowr 7 .l_Pond])], []⟩)])]) mixed (.cons (d_sl_Clone_Pond N) .nil) .nil Tryz.func68 (by kernel_rfl) (by kernel_rfl)

def snowpack_water (N : Nat) (x0 : Pack) : Option Int :=
  some (IntKind.i64.wrap (x0.Natural + x0.Machine))
theorem d_snowpack_water (N : Nat) : DenF Tryz.prog 137 ⟨[.t_Pack], [.t_i64], [[none]], snowpack_water N⟩ :=
  den_of (N := N) (gam := []) (txt := []) (hints := []) mixed .nil .nil Tryz.func137 (by kernel_rfl) (by kernel_rfl)

def snowpack_add (N : Nat) (x0 : Pack) (x1 x2 x3 : Int) : Option Pack :=
 
  (snowpack_water N x0).bind fun (r4 : Int) =>
    (bif decide (IntKind.i64.wrap (x1 + x2) > (0 : Int)) then
          bif
              IntKind.i64.wrap
                  (IntKind.i64.wrap (r4 * x3) + IntKind.i64.wrap (IntKind.i64.wrap (x1 + x2) * x0.Density)) !=
                (0 : Int) then
            some
              (Pack.mk x0.Natural x0.Machine
                (IntKind.i64.wrap
                  ((IntKind.i64.wrap
                        (IntKind.i64.wrap (IntKind.i64.wrap (r4 + IntKind.i64.wrap (x1 + x2)) * x0.Density) * x3)).tdiv
                    (IntKind.i64.wrap
                      (IntKind.i64.wrap (r4 * x3) + IntKind.i64.wrap (IntKind.i64.wrap (x1 + x2) * x0.Density))))))
          else none
        else some x0).bind
      fun (r5 : Pack) =>
      some (Pack.mk (IntKind.i64.wrap (r5.Natural + x1)) (IntKind.i64.wrap (r5.Machine + x2)) r5.Density)
theorem d_snowpack_add (N : Nat) : DenF Tryz.prog 111 ⟨[.t_Pack, .t_i64, .t_i64, .t_i64], [.t_Pack], [[none, none, none]], snowpack_add N⟩ :=
  den_of (N := N) (gam := [(137, ⟨[.t_Pack], [.t_i64], [[none]], snowpack_water N⟩)]) (txt := []) (hints := [(111, [([1, 0, 1, 1], ⟨[1, 2, 4, 8], [], [(.nrm, [.var 4 .t_Pack [none, none, none]])], []⟩)])]) mixed (.cons (d_snowpack_water N) .nil) .nil Tryz.func111 (by kernel_rfl) (by kernel_rfl)

def snowpack_Make (N : Nat) (x0 : Pack) (x1 : Int) : Option (Pack × Int) :=
 
  (snowpack_Right N x0).bind fun (r2 : Bool) =>
    bif !r2 then some (z_Pack, (1 : Int))
    else
      (snowpack_within N x1 (0 : Int) (1000 : Int)).bind fun (r3 : Bool) =>
        bif !r3 then some (z_Pack, (2 : Int))
        else
          bif decide (IntKind.i64.wrap (x0.Machine + x1) > (20000 : Int)) then some (z_Pack, (12 : Int))
          else (snowpack_add N x0 (0 : Int) x1 (450 : Int)).bind fun (r4 : Pack) => some (r4, (0 : Int))
theorem d_snowpack_Make (N : Nat) : DenF Tryz.prog 69 ⟨[.t_Pack, .t_i64], [.t_Pack, .t_i64], [[none, none, none], [none]], snowpack_Make N⟩ :=
  den_of (N := N) (gam := [(28, ⟨[.t_Pack], [.t_bool], [[none]], snowpack_Right N⟩), (74, ⟨[.t_i64, .t_i64, .t_i64], [.t_bool], [[none]], snowpack_within N⟩), (111, ⟨[.t_Pack, .t_i64, .t_i64, .t_i64], [.t_Pack], [[none, none, none]], snowpack_add N⟩)]) (txt := []) (hints := []) mixed (.cons (d_snowpack_Right N) (.cons (d_snowpack_within N) (.cons (d_snowpack_add N) .nil))) .nil Tryz.func69 (by kernel_rfl) (by kernel_rfl)

def snowmaking_Step (N : Nat) (x0 : SnowSystem) (x1 x2 : Int) : Option (SnowSystem × Int) :=
 
  (bif decide (x2 < (1 : Int)) then some true
      else
        bif decide (x2 > (3600 : Int)) then some true
        else
          bif decide (IntKind.i64.wrap (x0.Time + x2) > (20000000 : Int)) then some true
          else bif decide (x1 < (-1000 : Int)) then some true else some (decide (x1 > (1000 : Int)))).bind
    fun (r3 : Bool) =>
    bif r3 then some (z_SnowSystem, (2 : Int))
    else
      (snowmaking_Why N x0 x1).bind fun (r4 : Int) =>
        bif r4 != (0 : Int) then some (z_SnowSystem, r4)
        else
          (whileF N
                (fun (p5 : Int × Int × (Int → Option Int)) =>
                  bif decide (p5.snd.fst < (↑x0.Guns.length : Int)) then
                    bif decide ((0 : Int) ≤ p5.snd.fst) && decide (p5.snd.fst < (↑x0.Guns.length : Int)) then
                      (some [x0.Guns.getD (Int.toNat p5.snd.fst) z_Gun]).bind fun (r6 : List Gun) =>
                        (gun_Draws N x0.Kinds r6 x1).bind fun (r7 : List Draw) =>
                          (whileF N
                                (fun (p8 : Int × Int × (Int → Option Int)) =>
                                  bif decide (p8.snd.fst < (↑r7.length : Int)) then
                                    bif decide ((0 : Int) ≤ p8.snd.fst) && decide (p8.snd.fst < (↑r7.length : Int)) then
                                      some
                                        (Sum.inl
                                          (IntKind.i64.wrap
                                              (p8.fst +
                                                IntKind.i64.wrap
                                                  ((IntKind.i64.wrap
                                                        ((r7.getD (Int.toNat p8.snd.fst) z_Draw).Flow * x2)).tdiv
                                                    (60 : Int))),
                                            IntKind.i64.wrap (p8.snd.fst + (1 : Int)), fun (u : Int) =>
                                            bif u == (x0.Guns.getD (Int.toNat p5.snd.fst) z_Gun).Run then
                                              some
                                                (IntKind.i64.wrap
                                                  ((p8.snd.snd (x0.Guns.getD (Int.toNat p5.snd.fst) z_Gun).Run).getD
                                                      (0 : Int) +
                                                    IntKind.i64.wrap
                                                      ((IntKind.i64.wrap
                                                            ((r7.getD (Int.toNat p8.snd.fst) z_Draw).Flow * x2)).tdiv
                                                        (60 : Int))))
                                            else p8.snd.snd u))
                                    else none
                                  else some (Sum.inr (p8.fst, p8.snd.snd)))
                                (p5.fst, (0 : Int), p5.snd.snd)).bind
                            fun (r9 : Int × (Int → Option Int)) =>
                            some (Sum.inl (r9.fst, IntKind.i64.wrap (p5.snd.fst + (1 : Int)), r9.snd))
                    else none
                  else some (Sum.inr (p5.fst, p5.snd.snd)))
                ((0 : Int), (0 : Int), fun (x : Int) => none)).bind
            fun (r10 : Int × (Int → Option Int)) =>
            (pond_Spare N x0.Ponds).bind fun (r11 : Int) =>
              bif decide (r10.fst > r11) then some (z_SnowSystem, (8 : Int))
              else
                (snowmaking_Power N x0 x1).bind fun (r12 : Int × Int) =>
                  bif r12.snd != (0 : Int) then some (z_SnowSystem, r12.snd)
                  else
                    (snowmaking_copyOf N x0).bind fun (r13 : SnowSystem) =>
                      (pond_Take N r13.Ponds r10.fst).bind fun (r14 : List Pond × Int) =>
                        bif r14.snd != (0 : Int) then some (z_SnowSystem, r14.snd)
                        else
                          (pond_Fill N r14.fst x2).bind fun (r15 : List Pond × Int × Int) =>
                            bif r15.snd.snd != (0 : Int) then some (z_SnowSystem, r15.snd.snd)
                            else
                              (whileF N
                                    (fun (p16 : Int × SnowSystem × SnowSystem × List RunPack) =>
                                      bif decide (p16.fst < (↑r13.Packs.length : Int)) then
                                        bif
                                            decide ((0 : Int) ≤ p16.fst) &&
                                              decide (p16.fst < (↑(List.length p16.snd.snd.snd) : Int)) then
                                          bif
                                              (List.getD p16.snd.snd.snd (Int.toNat p16.fst) z_RunPack).Area !=
                                                (0 : Int) then
                                            (snowpack_Make N
                                                  (List.getD p16.snd.snd.snd (Int.toNat p16.fst) z_RunPack).Pack
                                                  (min (1000 : Int)
                                                    (IntKind.i64.wrap
                                                      (((r10.snd
                                                                (List.getD p16.snd.snd.snd (Int.toNat p16.fst)
                                                                    z_RunPack).Run).getD
                                                            (0 : Int)).tdiv
                                                        (List.getD p16.snd.snd.snd (Int.toNat p16.fst)
                                                            z_RunPack).Area)))).bind
                                              fun (r17 : Pack × Int) =>
                                              bif r17.snd != (0 : Int) then
                                                some
                                                  (Sum.inr
                                                    (Sum.inr
                                                      ((12 : Int), z_SnowSystem,
                                                        SnowSystem.mk p16.snd.snd.fst.Ponds p16.snd.snd.fst.Pumps
                                                          p16.snd.snd.fst.Pipes p16.snd.snd.fst.Kinds
                                                          p16.snd.snd.fst.Guns [] p16.snd.snd.fst.Pressure
                                                          p16.snd.snd.fst.Limit p16.snd.snd.fst.Time
                                                          p16.snd.snd.fst.Water p16.snd.snd.fst.Lost
                                                          p16.snd.snd.fst.Energy p16.snd.snd.fst.Inflow,
                                                        p16.snd.snd.snd)))
                                              else
                                                bif
                                                    decide ((0 : Int) ≤ p16.fst) &&
                                                      decide (p16.fst < (↑(List.length p16.snd.snd.snd) : Int)) then
                                                  (some
                                                        (List.set p16.snd.snd.snd (Int.toNat p16.fst)
                                                          (RunPack.mk
                                                            (List.getD p16.snd.snd.snd (Int.toNat p16.fst)
                                                                z_RunPack).Run
                                                            (List.getD p16.snd.snd.snd (Int.toNat p16.fst)
                                                                z_RunPack).Area
                                                            r17.fst))).bind
                                                    fun (r18 : List RunPack) =>
                                                    some
                                                      (Sum.inl
                                                        (IntKind.i64.wrap (p16.fst + (1 : Int)), p16.snd.fst,
                                                          SnowSystem.mk p16.snd.snd.fst.Ponds p16.snd.snd.fst.Pumps
                                                            p16.snd.snd.fst.Pipes p16.snd.snd.fst.Kinds
                                                            p16.snd.snd.fst.Guns [] p16.snd.snd.fst.Pressure
                                                            p16.snd.snd.fst.Limit p16.snd.snd.fst.Time
                                                            p16.snd.snd.fst.Water
                                                            (IntKind.i64.wrap
                                                              (p16.snd.snd.fst.Lost +
                                                                IntKind.i64.wrap
                                                                  ((r10.snd
                                                                          (List.getD p16.snd.snd.snd (Int.toNat p16.fst)
                                                                              z_RunPack).Run).getD
                                                                      (0 : Int) -
                                                                    IntKind.i64.wrap
                                                                      (min (1000 : Int)
                                                                          (IntKind.i64.wrap
                                                                            (((r10.snd
                                                                                      (List.getD p16.snd.snd.snd
                                                                                          (Int.toNat p16.fst)
                                                                                          z_RunPack).Run).getD
                                                                                  (0 : Int)).tdiv
                                                                              (List.getD p16.snd.snd.snd
                                                                                  (Int.toNat p16.fst)
                                                                                  z_RunPack).Area)) *
                                                                        (List.getD p16.snd.snd.snd (Int.toNat p16.fst)
                                                                            z_RunPack).Area))))
                                                            p16.snd.snd.fst.Energy p16.snd.snd.fst.Inflow,
                                                          r18))
                                                else none
                                          else none
                                        else none
                                      else
                                        some
                                          (Sum.inr
                                            (Sum.inl
                                              (p16.snd.fst,
                                                SnowSystem.mk p16.snd.snd.fst.Ponds p16.snd.snd.fst.Pumps
                                                  p16.snd.snd.fst.Pipes p16.snd.snd.fst.Kinds p16.snd.snd.fst.Guns []
                                                  p16.snd.snd.fst.Pressure p16.snd.snd.fst.Limit p16.snd.snd.fst.Time
                                                  p16.snd.snd.fst.Water p16.snd.snd.fst.Lost p16.snd.snd.fst.Energy
                                                  p16.snd.snd.fst.Inflow,
                                                p16.snd.snd.snd))))
                                    ((0 : Int), z_SnowSystem,
                                      SnowSystem.mk r15.fst r13.Pumps r13.Pipes r13.Kinds r13.Guns [] r13.Pressure
                                        r13.Limit r13.Time (IntKind.i64.wrap (r13.Water + r10.fst)) r13.Lost
                                        (IntKind.i64.wrap (r13.Energy + IntKind.i64.wrap (r12.fst * x2)))
                                        (IntKind.i64.wrap (r13.Inflow + r15.snd.fst)),
                                      r13.Packs)).bind
                                fun
                                  (r19 :
                                    SnowSystem × SnowSystem × List RunPack ⊕
                                      Int × SnowSystem × SnowSystem × List RunPack) =>
                                Sum.elim
                                  (fun (p20 : SnowSystem × SnowSystem × List RunPack) =>
                                    (snowmaking_counters N
                                          (SnowSystem.mk p20.snd.fst.Ponds p20.snd.fst.Pumps p20.snd.fst.Pipes
                                            p20.snd.fst.Kinds p20.snd.fst.Guns p20.snd.snd p20.snd.fst.Pressure
                                            p20.snd.fst.Limit p20.snd.fst.Time p20.snd.fst.Water p20.snd.fst.Lost
                                            p20.snd.fst.Energy p20.snd.fst.Inflow)).bind
                                      fun (r21 : Bool) =>
                                      bif !r21 then some (z_SnowSystem, (12 : Int))
                                      else
                                        some
                                          (SnowSystem.mk p20.snd.fst.Ponds p20.snd.fst.Pumps p20.snd.fst.Pipes
                                              p20.snd.fst.Kinds p20.snd.fst.Guns p20.snd.snd p20.snd.fst.Pressure
                                              p20.snd.fst.Limit (IntKind.i64.wrap (p20.snd.fst.Time + x2))
                                              p20.snd.fst.Water p20.snd.fst.Lost p20.snd.fst.Energy p20.snd.fst.Inflow,
                                            (0 : Int)))
                                  (fun (p22 : Int × SnowSystem × SnowSystem × List RunPack) =>
                                    some (p22.snd.fst, p22.fst))
                                  r19
theorem d_snowmaking_Step (N : Nat) : DenF Tryz.prog 23 ⟨[.t_SnowSystem, .t_i64, .t_i64], [.t_SnowSystem, .t_i64], [[none, none, none, none, none, none, none, none, none, none, none, none, none], [none]], snowmaking_Step N⟩ :=
  den_of (N := N) (gam := [(12, ⟨[.t_SnowSystem, .t_i64], [.t_i64], [[none]], snowmaking_Why N⟩), (40, ⟨[.l_GunKind, .l_Gun, .t_i64], [.l_Draw], [[some 77]], gun_Draws N⟩), (66, ⟨[.l_Pond], [.t_i64], [[none]], pond_Spare N⟩), (10, ⟨[.t_SnowSystem, .t_i64], [.t_i64, .t_i64], [[none], [none]], snowmaking_Power N⟩), (64, ⟨[.t_SnowSystem], [.t_SnowSystem], [[some 49, some 95, some 68, some 56, some 63, some 53, none, none, none, none, none, none, none]], snowmaking_copyOf N⟩), (67, ⟨[.l_Pond, .t_i64], [.l_Pond, .t_i64], [[some 49], [none]], pond_Take N⟩), (68, ⟨[.l_Pond, .t_i64], [.l_Pond, .t_i64, .t_i64], [[some 49], [none], [none]], pond_Fill N⟩), (69, ⟨[.t_Pack, .t_i64], [.t_Pack, .t_i64], [[none, none, none], [none]], snowpack_Make N⟩), (34, ⟨[.t_SnowSystem], [.t_bool], [[none]], snowmaking_counters N⟩)]) (txt := [(65, Tryz.f65)]) (hints := [(23, [([0, 0, 1], ⟨[1, 2, 3, 6], [], [(.nrm, [.reg 40 .t_bool [none]])], []⟩), ([0, 1, 0, 1, 1, 1, 1, 1, 1, 1, 1, 1, 1, 1, 1, 1, 1], ⟨[2, 6, 9, 13, 117, 118], [.reg 119 .t_i64 [none], .var 6 .t_SnowSystem [none, none, none, none, none, none, none, none, none, none, none, none, none], .vars 13 .t_SnowSystem [none, none, none, none, none, none, none, none, none, none, none, none, none] [5], .rowc 13 5 .l_RunPack], [(.ex 0, [.var 6 .t_SnowSystem [none, none, none, none, none, none, none, none, none, none, none, none, none], .vars 13 .t_SnowSystem [none, none, none, none, none, none, none, none, none, none, none, none, none] [5], .rowc 13 5 .l_RunPack]), (.ret, [.reg 7 .t_i64 [none], .var 6 .t_SnowSystem [none, none, none, none, none, none, none, none, none, none, none, none, none], .vars 13 .t_SnowSystem [none, none, none, none, none, none, none, none, none, none, none, none, none] [5], .rowc 13 5 .l_RunPack])], []⟩)]), (65, [([0, 1, 0, 1, 1, 1], ⟨[1, 2, 3, 8, 17, 18], [.reg 9 .t_i64 [none], .reg 19 .t_i64 [none], .mapr 8 .t_i64], [(.ex 0, [.reg 9 .t_i64 [none], .mapr 8 .t_i64])], []⟩), ([0, 1, 1, 0, 0, 1, 1, 0, 0, 1, 0, 1, 1, 1], ⟨[1, 2, 3, 8, 11, 17, 18, 19, 28, 29], [.reg 9 .t_i64 [none], .reg 30 .t_i64 [none], .mapr 8 .t_i64], [(.ex 2, [.reg 9 .t_i64 [none], .mapr 8 .t_i64])], []⟩)])]) mixed (.cons (d_snowmaking_Why N) (.cons (d_gun_Draws N) (.cons (d_pond_Spare N) (.cons (d_snowmaking_Power N) (.cons (d_snowmaking_copyOf N) (.cons (d_pond_Take N) (.cons (d_pond_Fill N) (.cons (d_snowpack_Make N) (.cons (d_snowmaking_counters N) .nil))))))))) (.cons Tryz.func65 .nil) Tryz.func23 (by kernel_rfl) (by kernel_rfl)

def pond_Total (N : Nat) (x0 : List Pond) : Option Int :=
 
  (whileF N
        (fun (p1 : Int × Int) =>
          bif decide (p1.snd < (↑x0.length : Int)) then
            bif decide ((0 : Int) ≤ p1.snd) && decide (p1.snd < (↑x0.length : Int)) then
              some
                (Sum.inl
                  (IntKind.i64.wrap (p1.fst + (x0.getD (Int.toNat p1.snd) z_Pond).Volume),
                    IntKind.i64.wrap (p1.snd + (1 : Int))))
            else none
          else some (Sum.inr p1.fst))
        ((0 : Int), (0 : Int))).bind
    fun (r2 : Int) => some r2
theorem d_pond_Total (N : Nat) : DenF Tryz.prog 58 ⟨[.l_Pond], [.t_i64], [[none]], pond_Total N⟩ :=
  den_of (N := N) (gam := []) (txt := []) (hints := [(58, [([0, 1, 0, 1, 1], ⟨[6, 7], [.reg 3 .t_i64 [none], .reg 8 .t_i64 [none]], [(.ex 0, [.reg 3 .t_i64 [none]])], []⟩)])]) mixed .nil .nil Tryz.func58 (by kernel_rfl) (by kernel_rfl)

def snowmaking_Balanced (N : Nat) (x0 x1 : SnowSystem) : Option Bool :=
 
  bif (↑x0.Packs.length : Int) != (↑x1.Packs.length : Int) then some false
  else
    (whileF N
          (fun (p2 : Int × Int) =>
            bif decide (p2.snd < (↑x0.Packs.length : Int)) then
              bif decide ((0 : Int) ≤ p2.snd) && decide (p2.snd < (↑x0.Packs.length : Int)) then
                bif decide ((0 : Int) ≤ p2.snd) && decide (p2.snd < (↑x1.Packs.length : Int)) then
                  (bif
                          (x0.Packs.getD (Int.toNat p2.snd) z_RunPack).Run !=
                            (x1.Packs.getD (Int.toNat p2.snd) z_RunPack).Run then
                        some true
                      else
                        some
                          ((x0.Packs.getD (Int.toNat p2.snd) z_RunPack).Area !=
                            (x1.Packs.getD (Int.toNat p2.snd) z_RunPack).Area)).bind
                    fun (r3 : Bool) =>
                    bif r3 then some (Sum.inr (Sum.inr false))
                    else
                      some
                        (Sum.inl
                          (IntKind.i64.wrap
                              (p2.fst +
                                IntKind.i64.wrap
                                  (IntKind.i64.wrap
                                      ((x1.Packs.getD (Int.toNat p2.snd) z_RunPack).Pack.Machine -
                                        (x0.Packs.getD (Int.toNat p2.snd) z_RunPack).Pack.Machine) *
                                    (x0.Packs.getD (Int.toNat p2.snd) z_RunPack).Area)),
                            IntKind.i64.wrap (p2.snd + (1 : Int))))
                else none
              else none
            else some (Sum.inr (Sum.inl p2.fst)))
          (IntKind.i64.wrap (x1.Lost - x0.Lost), (0 : Int))).bind
      fun (r4 : Int ⊕ Bool) =>
      Sum.elim
        (fun (p5 : Int) =>
          (pond_Total N x1.Ponds).bind fun (r6 : Int) =>
            (pond_Total N x0.Ponds).bind fun (r7 : Int) =>
              (bif
                      IntKind.i64.wrap (r6 - r7) ==
                        IntKind.i64.wrap
                          (IntKind.i64.wrap (x1.Inflow - x0.Inflow) - IntKind.i64.wrap (x1.Water - x0.Water)) then
                    some (IntKind.i64.wrap (x1.Water - x0.Water) == p5)
                  else some false).bind
                fun (r8 : Bool) => some r8)
        (fun (p9 : Bool) => some p9) r4
theorem d_snowmaking_Balanced (N : Nat) : DenF Tryz.prog 19 ⟨[.t_SnowSystem, .t_SnowSystem], [.t_bool], [[none]], snowmaking_Balanced N⟩ :=
  den_of (N := N) (gam := [(58, ⟨[.l_Pond], [.t_i64], [[none]], pond_Total N⟩)]) (txt := []) (hints := [(19, [([0, 1, 0, 1, 1, 1, 1], ⟨[2, 3, 5, 29, 30], [.reg 6 .t_i64 [none], .reg 31 .t_i64 [none]], [(.ex 0, [.reg 6 .t_i64 [none]]), (.ret, [.reg 4 .t_bool [none]])], []⟩), ([0, 0, 1, 1, 0, 0, 1, 1, 0, 0, 1, 0, 1, 1, 1, 1], ⟨[2, 3, 5, 6, 8, 9, 29, 30, 31], [], [(.nrm, [.reg 52 .t_bool [none]])], []⟩), ([0, 1, 1, 1, 1, 1, 1], ⟨[], [], [(.nrm, [.reg 4 .t_bool [none]])], []⟩)])]) mixed (.cons (d_pond_Total N) .nil) .nil Tryz.func19 (by kernel_rfl) (by kernel_rfl)

def l44_alive (N : Nat) : Option Bool :=
 
  (l44_example N).bind fun (r0 : SnowSystem) =>
    (snowmaking_Switch N r0 (1 : Int) true (-50 : Int)).bind fun (r1 : SnowSystem × Int) =>
      (snowmaking_Power N r1.fst (-50 : Int)).bind fun (r2 : Int × Int) =>
        ((snowmaking_Right N r0).bind fun (r3 : Int) =>
              bif r3 != (0 : Int) then some true
              else
                bif r1.snd != (0 : Int) then some true
                else bif r2.snd != (0 : Int) then some true else some (r2.fst != (2500 : Int))).bind
          fun (r4 : Bool) =>
          bif r4 then some false
          else
            (snowmaking_Step N r1.fst (-50 : Int) (60 : Int)).bind fun (r5 : SnowSystem × Int) =>
              (bif r5.snd != (0 : Int) then some true
                  else
                    bif (↑r5.fst.Ponds.length : Int) != (1 : Int) then some true
                    else
                      bif (↑r5.fst.Packs.length : Int) != (1 : Int) then some true
                      else
                        bif true && decide ((0 : Int) < (↑r5.fst.Ponds.length : Int)) then
                          bif (r5.fst.Ponds.getD 0 z_Pond).Volume != (9960 : Int) then some true
                          else
                            bif true && decide ((0 : Int) < (↑r5.fst.Packs.length : Int)) then
                              bif (r5.fst.Packs.getD 0 z_RunPack).Pack.Machine != (10 : Int) then some true
                              else
                                bif r5.fst.Lost != (0 : Int) then some true
                                else
                                  bif r5.fst.Energy != (150000 : Int) then some true
                                  else (snowmaking_Balanced N r0 r5.fst).bind fun (r6 : Bool) => some !r6
                            else none
                        else none).bind
                fun (r7 : Bool) =>
                bif r7 then some false
                else
                  (snowmaking_Step N r1.fst (0 : Int) (60 : Int)).bind fun (r8 : SnowSystem × Int) =>
                    (snowmaking_Power N r1.fst (0 : Int)).bind fun (r9 : Int × Int) =>
                      (bif r8.snd != (0 : Int) then some true
                          else
                            bif r9.snd != (0 : Int) then some true
                            else
                              bif r9.fst != (500 : Int) then some true
                              else
                                bif (↑r8.fst.Packs.length : Int) != (1 : Int) then some true
                                else
                                  bif true && decide ((0 : Int) < (↑r8.fst.Packs.length : Int)) then
                                    some ((r8.fst.Packs.getD 0 z_RunPack).Pack.Machine != (0 : Int))
                                  else none).bind
                        fun (r10 : Bool) =>
                        bif r10 then some false
                        else
                          (snowmaking_Switch N
                                (SnowSystem.mk r0.Ponds r0.Pumps r0.Pipes r0.Kinds r0.Guns r0.Packs r0.Pressure
                                  (2000 : Int) r0.Time r0.Water r0.Lost r0.Energy r0.Inflow)
                                (1 : Int) true (-50 : Int)).bind
                            fun (r11 : SnowSystem × Int) =>
                            (snowmaking_Switch N
                                  (SnowSystem.mk r0.Ponds r0.Pumps r0.Pipes r0.Kinds r0.Guns r0.Packs (3299 : Int)
                                    r0.Limit r0.Time r0.Water r0.Lost r0.Energy r0.Inflow)
                                  (1 : Int) true (-50 : Int)).bind
                              fun (r12 : SnowSystem × Int) =>
                              (snowmaking_Switch N r0 (2 : Int) true (-50 : Int)).bind fun (r13 : SnowSystem × Int) =>
                                (bif r11.snd == (13 : Int) then
                                      bif r12.snd == (5 : Int) then some (r13.snd == (8 : Int)) else some false
                                    else some false).bind
                                  fun (r14 : Bool) => some r14
theorem d_l44_alive (N : Nat) : DenF Tryz.prog 6 ⟨[], [.t_bool], [[none]], l44_alive N⟩ :=
  den_of (N := N) (gam := [(21, ⟨[], [.t_SnowSystem], [[some 49, some 95, some 68, some 56, some 63, some 53, none, none, none, none, none, none, none]], l44_example N⟩), (22, ⟨[.t_SnowSystem, .t_i64, .t_bool, .t_i64], [.t_SnowSystem, .t_i64], [[some 49, some 95, some 68, some 56, some 63, some 53, none, none, none, none, none, none, none], [none]], snowmaking_Switch N⟩), (10, ⟨[.t_SnowSystem, .t_i64], [.t_i64, .t_i64], [[none], [none]], snowmaking_Power N⟩), (8, ⟨[.t_SnowSystem], [.t_i64], [[none]], snowmaking_Right N⟩), (23, ⟨[.t_SnowSystem, .t_i64, .t_i64], [.t_SnowSystem, .t_i64], [[none, none, none, none, none, none, none, none, none, none, none, none, none], [none]], snowmaking_Step N⟩), (19, ⟨[.t_SnowSystem, .t_SnowSystem], [.t_bool], [[none]], snowmaking_Balanced N⟩)]) (txt := []) (hints := [(6, [([0, 0, 1, 1, 1, 1], ⟨[1, 2], [], [(.nrm, [.reg 42 .t_bool [none]])], []⟩), ([0, 0, 1, 1, 1, 1, 1, 1], ⟨[1, 2], [], [(.nrm, [.reg 94 .t_bool [none]])], []⟩), ([0, 0, 1, 1, 1, 1, 1, 1, 1, 1, 1], ⟨[1], [], [(.nrm, [.reg 129 .t_bool [none]])], []⟩), ([0, 1, 1, 1, 1, 1, 1, 1, 1, 1, 1, 1, 1, 1, 1, 1, 1, 1], ⟨[], [], [(.nrm, [.reg 0 .t_bool [none]])], []⟩)])]) mixed (.cons (d_l44_example N) (.cons (d_snowmaking_Switch N) (.cons (d_snowmaking_Power N) (.cons (d_snowmaking_Right N) (.cons (d_snowmaking_Step N) (.cons (d_snowmaking_Balanced N) .nil)))))) .nil Tryz.func6 (by kernel_rfl) (by kernel_rfl)

def l44_small (N : Nat) (x0 : SnowSystem) : Option Bool :=
 
  (whileF N
        (fun (p1 : Int) =>
          bif decide (p1 < (↑x0.Kinds.length : Int)) then
            (bif decide (p1 ≥ (30 : Int)) then some true
                else
                  bif decide ((0 : Int) ≤ p1) && decide (p1 < (↑x0.Kinds.length : Int)) then
                    some (decide ((↑(x0.Kinds.getD p1.toNat z_GunKind).Output.length : Int) > (70 : Int)))
                  else none).bind
              fun (r2 : Bool) =>
              bif r2 then some (Sum.inr (Sum.inr false)) else some (Sum.inl (IntKind.i64.wrap (p1 + (1 : Int))))
          else some (Sum.inr (Sum.inl ())))
        (0 : Int)).bind
    fun (r3 : Unit ⊕ Bool) =>
    Sum.elim
      (fun (p4 : Unit) =>
        (bif decide ((↑x0.Ponds.length : Int) ≤ (30 : Int)) then
              bif decide ((↑x0.Pumps.length : Int) ≤ (30 : Int)) then
                bif decide ((↑x0.Pipes.length : Int) ≤ (30 : Int)) then
                  bif decide ((↑x0.Guns.length : Int) ≤ (30 : Int)) then
                    some (decide ((↑x0.Packs.length : Int) ≤ (30 : Int)))
                  else some false
                else some false
              else some false
            else some false).bind
          fun (r5 : Bool) => some r5)
      (fun (p6 : Bool) => some p6) r3
theorem d_l44_small (N : Nat) : DenF Tryz.prog 7 ⟨[.t_SnowSystem], [.t_bool], [[none]], l44_small N⟩ :=
  den_of (N := N) (gam := []) (txt := []) (hints := [(7, [([0, 1, 0, 1], ⟨[1], [.reg 3 .t_i64 [none]], [(.ex 0, []), (.ret, [.reg 2 .t_bool [none]])], []⟩), ([0, 0, 0, 1, 0, 0, 1, 0, 1], ⟨[1, 3], [], [(.nrm, [.reg 22 .t_bool [none]])], []⟩), ([0, 1, 1], ⟨[], [], [(.nrm, [.reg 2 .t_bool [none]])], []⟩)])]) mixed .nil .nil Tryz.func7 (by kernel_rfl) (by kernel_rfl)

def r39_Right (N : Nat) (x0 : List Pond) : Option Int :=
 
  bif decide ((↑x0.length : Int) > (8 : Int)) then some (4 : Int)
  else
    (whileF N
          (fun (p1 : Int) =>
            bif decide (p1 < (↑x0.length : Int)) then
              bif decide ((0 : Int) ≤ p1) && decide (p1 < (↑x0.length : Int)) then
                (bif decide ((x0.getD p1.toNat z_Pond).ID < (1 : Int)) then some true
                    else
                      bif decide ((x0.getD p1.toNat z_Pond).ID > (9999 : Int)) then some true
                      else
                        bif decide ((x0.getD p1.toNat z_Pond).Least < (0 : Int)) then some true
                        else
                          bif decide ((x0.getD p1.toNat z_Pond).Least > (x0.getD p1.toNat z_Pond).Volume) then some true
                          else
                            bif decide ((x0.getD p1.toNat z_Pond).Volume > (x0.getD p1.toNat z_Pond).Most) then
                              some true
                            else
                              bif decide ((x0.getD p1.toNat z_Pond).Most > (1000000000 : Int)) then some true
                              else
                                bif decide ((x0.getD p1.toNat z_Pond).Inflow < (0 : Int)) then some true
                                else some (decide ((x0.getD p1.toNat z_Pond).Inflow > (10000000 : Int)))).bind
                  fun (r2 : Bool) =>
                  bif r2 then some (Sum.inr (Sum.inr (2 : Int)))
                  else
                    (whileF N
                          (fun (p3 : Int) =>
                            bif decide (p3 < p1) then
                              bif decide ((0 : Int) ≤ p3) && decide (p3 < (↑x0.length : Int)) then
                                bif (x0.getD p3.toNat z_Pond).ID == (x0.getD p1.toNat z_Pond).ID then
                                  some (Sum.inr (Sum.inr (7 : Int)))
                                else some (Sum.inl (IntKind.i64.wrap (p3 + (1 : Int))))
                              else none
                            else some (Sum.inr (Sum.inl ())))
                          (0 : Int)).bind
                      fun (r4 : Unit ⊕ Int) =>
                      Sum.elim (fun (p5 : Unit) => some (Sum.inl (IntKind.i64.wrap (p1 + (1 : Int)))))
                        (fun (p6 : Int) => some (Sum.inr (Sum.inr p6))) r4
              else none
            else some (Sum.inr (Sum.inl ())))
          (0 : Int)).bind
      fun (r7 : Unit ⊕ Int) => Sum.elim (fun (p8 : Unit) => some (0 : Int)) (fun (p9 : Int) => some p9) r7
theorem d_r39_Right (N : Nat) : DenF Tryz.prog 77 ⟨[.l_Pond], [.t_i64], [[none]], r39_Right N⟩ :=
  den_of (N := N) (gam := []) (txt := []) (hints := [(77, [([0, 1, 0, 1, 1], ⟨[0], [.reg 3 .t_i64 [none]], [(.ex 0, []), (.ret, [.reg 2 .t_i64 [none]])], []⟩), ([0, 0, 1, 0, 0, 1, 0, 0, 1, 0, 1, 1], ⟨[0, 3, 4], [], [(.nrm, [.reg 60 .t_bool [none]])], []⟩), ([0, 1, 1, 1, 0, 0, 1, 0, 0, 1, 0, 1, 1], ⟨[0, 3, 4], [.reg 5 .t_i64 [none]], [(.ex 2, []), (.ret, [.reg 2 .t_i64 [none]])], []⟩)])]) mixed .nil .nil Tryz.func77 (by kernel_rfl) (by kernel_rfl)

def r41_Right (N : Nat) (x0 : List Pump) : Option Int :=
 
  bif decide ((↑x0.length : Int) > (8 : Int)) then some (4 : Int)
  else
    (whileF N
          (fun (p1 : Int) =>
            bif decide (p1 < (↑x0.length : Int)) then
              bif decide ((0 : Int) ≤ p1) && decide (p1 < (↑x0.length : Int)) then
                (bif decide ((x0.getD p1.toNat z_Pump).ID < (1 : Int)) then some true
                    else
                      bif decide ((x0.getD p1.toNat z_Pump).ID > (9999 : Int)) then some true
                      else
                        bif decide ((x0.getD p1.toNat z_Pump).Flow < (1 : Int)) then some true
                        else
                          bif decide ((x0.getD p1.toNat z_Pump).Flow > (1000000 : Int)) then some true
                          else
                            bif decide ((x0.getD p1.toNat z_Pump).Power < (1 : Int)) then some true
                            else some (decide ((x0.getD p1.toNat z_Pump).Power > (100000000 : Int)))).bind
                  fun (r2 : Bool) =>
                  bif r2 then some (Sum.inr (Sum.inr (2 : Int)))
                  else
                    (whileF N
                          (fun (p3 : Int) =>
                            bif decide (p3 < p1) then
                              bif decide ((0 : Int) ≤ p3) && decide (p3 < (↑x0.length : Int)) then
                                bif (x0.getD p3.toNat z_Pump).ID == (x0.getD p1.toNat z_Pump).ID then
                                  some (Sum.inr (Sum.inr (7 : Int)))
                                else some (Sum.inl (IntKind.i64.wrap (p3 + (1 : Int))))
                              else none
                            else some (Sum.inr (Sum.inl ())))
                          (0 : Int)).bind
                      fun (r4 : Unit ⊕ Int) =>
                      Sum.elim (fun (p5 : Unit) => some (Sum.inl (IntKind.i64.wrap (p1 + (1 : Int)))))
                        (fun (p6 : Int) => some (Sum.inr (Sum.inr p6))) r4
              else none
            else some (Sum.inr (Sum.inl ())))
          (0 : Int)).bind
      fun (r7 : Unit ⊕ Int) => Sum.elim (fun (p8 : Unit) => some (0 : Int)) (fun (p9 : Int) => some p9) r7
theorem d_r41_Right (N : Nat) : DenF Tryz.prog 78 ⟨[.l_Pump], [.t_i64], [[none]], r41_Right N⟩ :=
  den_of (N := N) (gam := []) (txt := []) (hints := [(78, [([0, 1, 0, 1, 1], ⟨[0], [.reg 3 .t_i64 [none]], [(.ex 0, []), (.ret, [.reg 2 .t_i64 [none]])], []⟩), ([0, 0, 1, 0, 0, 1, 0, 0, 1, 0, 1, 1], ⟨[0, 3, 4], [], [(.nrm, [.reg 46 .t_bool [none]])], []⟩), ([0, 1, 1, 1, 0, 0, 1, 0, 0, 1, 0, 1, 1], ⟨[0, 3, 4], [.reg 5 .t_i64 [none]], [(.ex 2, []), (.ret, [.reg 2 .t_i64 [none]])], []⟩)])]) mixed .nil .nil Tryz.func78 (by kernel_rfl) (by kernel_rfl)

def r40_Right (N : Nat) (x0 : List Pipe) : Option Int :=
 
  bif decide ((↑x0.length : Int) > (64 : Int)) then some (4 : Int)
  else
    (whileF N
          (fun (p1 : Int) =>
            bif decide (p1 < (↑x0.length : Int)) then
              bif decide ((0 : Int) ≤ p1) && decide (p1 < (↑x0.length : Int)) then
                (bif decide ((x0.getD p1.toNat z_Pipe).ID < (1 : Int)) then some true
                    else
                      bif decide ((x0.getD p1.toNat z_Pipe).ID > (9999 : Int)) then some true
                      else
                        bif decide ((x0.getD p1.toNat z_Pipe).To < (1 : Int)) then some true
                        else
                          bif decide ((x0.getD p1.toNat z_Pipe).To > (9999 : Int)) then some true
                          else
                            bif decide ((x0.getD p1.toNat z_Pipe).Loss < (0 : Int)) then some true
                            else
                              bif decide ((x0.getD p1.toNat z_Pipe).Loss > (100000 : Int)) then some true
                              else
                                bif decide ((x0.getD p1.toNat z_Pipe).Rise < (-100000 : Int)) then some true
                                else some (decide ((x0.getD p1.toNat z_Pipe).Rise > (100000 : Int)))).bind
                  fun (r2 : Bool) =>
                  bif r2 then some (Sum.inr (Sum.inr (2 : Int)))
                  else
                    (whileF N
                          (fun (p3 : Bool × Int) =>
                            bif decide (p3.snd < p1) then
                              (bif decide ((0 : Int) ≤ p3.snd) && decide (p3.snd < (↑x0.length : Int)) then
                                    bif (x0.getD (Int.toNat p3.snd) z_Pipe).ID == (x0.getD p1.toNat z_Pipe).ID then
                                      some true
                                    else
                                      bif decide ((0 : Int) ≤ p3.snd) && decide (p3.snd < (↑x0.length : Int)) then
                                        some ((x0.getD (Int.toNat p3.snd) z_Pipe).To == (x0.getD p1.toNat z_Pipe).To)
                                      else none
                                  else none).bind
                                fun (r4 : Bool) =>
                                bif r4 then some (Sum.inr (Sum.inr (7 : Int)))
                                else
                                  (bif p3.fst then some true
                                      else
                                        bif decide ((0 : Int) ≤ p3.snd) && decide (p3.snd < (↑x0.length : Int)) then
                                          some
                                            ((x0.getD (Int.toNat p3.snd) z_Pipe).To == (x0.getD p1.toNat z_Pipe).From)
                                        else none).bind
                                    fun (r5 : Bool) => some (Sum.inl (r5, IntKind.i64.wrap (p3.snd + (1 : Int))))
                            else some (Sum.inr (Sum.inl p3.fst)))
                          ((x0.getD p1.toNat z_Pipe).From == (0 : Int), (0 : Int))).bind
                      fun (r6 : Bool ⊕ Int) =>
                      Sum.elim
                        (fun (p7 : Bool) =>
                          bif !p7 then some (Sum.inr (Sum.inr (8 : Int)))
                          else some (Sum.inl (IntKind.i64.wrap (p1 + (1 : Int)))))
                        (fun (p8 : Int) => some (Sum.inr (Sum.inr p8))) r6
              else none
            else some (Sum.inr (Sum.inl ())))
          (0 : Int)).bind
      fun (r9 : Unit ⊕ Int) => Sum.elim (fun (p10 : Unit) => some (0 : Int)) (fun (p11 : Int) => some p11) r9
theorem d_r40_Right (N : Nat) : DenF Tryz.prog 79 ⟨[.l_Pipe], [.t_i64], [[none]], r40_Right N⟩ :=
  den_of (N := N) (gam := []) (txt := []) (hints := [(79, [([0, 1, 0, 1, 1], ⟨[0], [.reg 3 .t_i64 [none]], [(.ex 0, []), (.ret, [.reg 2 .t_i64 [none]])], []⟩), ([0, 0, 1, 0, 0, 1, 0, 0, 1, 0, 1, 1], ⟨[0, 3, 4], [], [(.nrm, [.reg 57 .t_bool [none]])], []⟩), ([0, 1, 0, 1, 1, 1, 0, 0, 1, 0, 0, 1, 0, 1, 1], ⟨[0, 3, 4], [.reg 5 .t_bool [none], .reg 6 .t_i64 [none]], [(.ex 2, [.reg 5 .t_bool [none]]), (.ret, [.reg 2 .t_i64 [none]])], []⟩), ([0, 0, 0, 0, 1, 0, 0, 1, 0, 1, 1, 1, 0, 0, 1, 0, 0, 1, 0, 1, 1], ⟨[0, 3, 4, 5, 6], [], [(.nrm, [.reg 83 .t_bool [none]])], []⟩), ([1, 0, 0, 1, 0, 0, 1, 0, 1, 1, 1, 0, 0, 1, 0, 0, 1, 0, 1, 1], ⟨[0, 3, 4, 6], [], [(.nrm, [.reg 5 .t_bool [none]])], []⟩)])]) mixed .nil .nil Tryz.func79 (by kernel_rfl) (by kernel_rfl)

def r01_Within (N : Nat) (x0 x1 : Int) : Option Bool :=
 
  (bif decide (x0 ≥ IntKind.i64.wrap ((0 : Int) - x1)) then some (decide (x0 ≤ x1)) else some false).bind
    fun (r2 : Bool) => some r2
theorem d_r01_Within (N : Nat) : DenF Tryz.prog 151 ⟨[.t_i64, .t_i64], [.t_bool], [[none]], r01_Within N⟩ :=
  den_of (N := N) (gam := []) (txt := []) (hints := [(151, [([0, 1], ⟨[], [], [(.nrm, [.reg 4 .t_bool [none]])], []⟩)])]) mixed .nil .nil Tryz.func151 (by kernel_rfl) (by kernel_rfl)
end Go.Proofs.YtkhkblihdabnoaaGreat
