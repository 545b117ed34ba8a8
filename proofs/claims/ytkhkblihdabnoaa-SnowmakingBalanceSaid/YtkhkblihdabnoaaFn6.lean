/- Written by a program (gen.py, asm.py): what each function computes, as a plain function, and that its text computes it. No condition. -/
import Derived.Test.YtkhkblihdabnoaaFn5
import Derived.Test.YtkhkblihdabnoaaCmo
namespace Go.Proofs.Ytkhkblihdabnoaa
open Go.Cm Go.Proofs
set_option linter.unusedVariables false
set_option maxRecDepth 100000

def l44_SnowmakingLimits (N : Nat) (x0 : SnowSystem) (x1 : List Op) : Option Bool :=
 
  (l44_alive N).bind fun (r2 : Bool) =>
    bif !r2 then some false
    else
      ((l44_small N x0).bind fun (r3 : Bool) =>
            bif !r3 then some true
            else
              (snowmaking_Right N x0).bind fun (r4 : Int) =>
                bif r4 != (0 : Int) then some true else some (decide ((↑x1.length : Int) > (30 : Int)))).bind
        fun (r5 : Bool) =>
        bif r5 then some true
        else
          (l44_after N x0 x1).bind fun (r6 : SnowSystem) =>
            ((snowmaking_Right N r6).bind fun (r7 : Int) =>
                  bif r7 != (0 : Int) then some true
                  else
                    bif (↑r6.Ponds.length : Int) != (↑x0.Ponds.length : Int) then some true
                    else
                      bif (↑r6.Packs.length : Int) != (↑x0.Packs.length : Int) then some true
                      else some ((↑r6.Guns.length : Int) != (↑x0.Guns.length : Int))).bind
              fun (r8 : Bool) =>
              bif r8 then some false
              else
                (whileF N
                      (fun (p9 : Int) =>
                        bif decide (p9 < (↑r6.Ponds.length : Int)) then
                          (bif decide ((0 : Int) ≤ p9) && decide (p9 < (↑r6.Ponds.length : Int)) then
                                bif decide ((0 : Int) ≤ p9) && decide (p9 < (↑x0.Ponds.length : Int)) then
                                  bif (r6.Ponds.getD p9.toNat z_Pond).ID != (x0.Ponds.getD p9.toNat z_Pond).ID then
                                    some true
                                  else
                                    bif decide ((0 : Int) ≤ p9) && decide (p9 < (↑r6.Ponds.length : Int)) then
                                      bif decide ((0 : Int) ≤ p9) && decide (p9 < (↑x0.Ponds.length : Int)) then
                                        bif
                                            decide
                                              ((r6.Ponds.getD p9.toNat z_Pond).Volume <
                                                (x0.Ponds.getD p9.toNat z_Pond).Least) then
                                          some true
                                        else
                                          bif decide ((0 : Int) ≤ p9) && decide (p9 < (↑r6.Ponds.length : Int)) then
                                            bif decide ((0 : Int) ≤ p9) && decide (p9 < (↑x0.Ponds.length : Int)) then
                                              some
                                                (decide
                                                  ((r6.Ponds.getD p9.toNat z_Pond).Volume >
                                                    (x0.Ponds.getD p9.toNat z_Pond).Most))
                                            else none
                                          else none
                                      else none
                                    else none
                                else none
                              else none).bind
                            fun (r10 : Bool) =>
                            bif r10 then some (Sum.inr (Sum.inr false))
                            else some (Sum.inl (IntKind.i64.wrap (p9 + (1 : Int))))
                        else some (Sum.inr (Sum.inl ())))
                      (0 : Int)).bind
                  fun (r11 : Unit ⊕ Bool) =>
                  Sum.elim
                    (fun (p12 : Unit) =>
                      (whileF N
                            (fun (p13 : Int) =>
                              bif decide (p13 < (↑r6.Packs.length : Int)) then
                                (bif decide ((0 : Int) ≤ p13) && decide (p13 < (↑r6.Packs.length : Int)) then
                                      bif decide ((0 : Int) ≤ p13) && decide (p13 < (↑x0.Packs.length : Int)) then
                                        bif
                                            (r6.Packs.getD p13.toNat z_RunPack).Pack.Natural !=
                                              (x0.Packs.getD p13.toNat z_RunPack).Pack.Natural then
                                          some true
                                        else
                                          bif decide ((0 : Int) ≤ p13) && decide (p13 < (↑r6.Packs.length : Int)) then
                                            bif decide ((0 : Int) ≤ p13) && decide (p13 < (↑x0.Packs.length : Int)) then
                                              some
                                                (decide
                                                  ((r6.Packs.getD p13.toNat z_RunPack).Pack.Machine <
                                                    (x0.Packs.getD p13.toNat z_RunPack).Pack.Machine))
                                            else none
                                          else none
                                      else none
                                    else none).bind
                                  fun (r14 : Bool) =>
                                  bif r14 then some (Sum.inr (Sum.inr false))
                                  else some (Sum.inl (IntKind.i64.wrap (p13 + (1 : Int))))
                              else some (Sum.inr (Sum.inl ())))
                            (0 : Int)).bind
                        fun (r15 : Unit ⊕ Bool) =>
                        Sum.elim (fun (p16 : Unit) => some true) (fun (p17 : Bool) => some p17) r15)
                    (fun (p18 : Bool) => some p18) r11
theorem d_l44_SnowmakingLimits (N : Nat) : DenF Try.prog 4 ⟨[.t_SnowSystem, .l_Op], [.t_bool], [[none]], l44_SnowmakingLimits N⟩ :=
  den_of (N := N) (gam := [(7, ⟨[], [.t_bool], [[none]], l44_alive N⟩), (8, ⟨[.t_SnowSystem], [.t_bool], [[none]], l44_small N⟩), (9, ⟨[.t_SnowSystem], [.t_i64], [[none]], snowmaking_Right N⟩), (10, ⟨[.t_SnowSystem, .l_Op], [.t_SnowSystem], [[none, none, none, none, none, none, none, none, none, none, none, none, none]], l44_after N⟩)]) (txt := []) (hints := [(4, [([0, 0, 1, 1], ⟨[1, 2], [], [(.nrm, [.reg 22 .t_bool [none]])], []⟩), ([0, 0, 1, 1, 1, 1], ⟨[2, 5], [], [(.nrm, [.reg 55 .t_bool [none]])], []⟩), ([0, 1, 0, 1, 1, 1, 1, 1], ⟨[2, 5], [.reg 6 .t_i64 [none]], [(.ex 0, []), (.ret, [.reg 4 .t_bool [none]])], []⟩), ([0, 0, 0, 1, 0, 0, 1, 0, 1, 1, 1, 1, 1], ⟨[2, 5, 6], [], [(.nrm, [.reg 105 .t_bool [none]])], []⟩), ([0, 1, 0, 1, 1, 1, 1, 1, 1], ⟨[2, 5], [.reg 7 .t_i64 [none]], [(.ex 2, []), (.ret, [.reg 4 .t_bool [none]])], []⟩), ([0, 0, 0, 1, 0, 0, 1, 0, 1, 1, 1, 1, 1, 1], ⟨[2, 5, 7], [], [(.nrm, [.reg 144 .t_bool [none]])], []⟩)])]) mixed (.cons (d_l44_alive N) (.cons (d_l44_small N) (.cons (d_snowmaking_Right N) (.cons (d_l44_after N) .nil)))) .nil Try.func4 (by kernel_rfl) (by kernel_rfl)

def r44_SamePacks (N : Nat) (x0 x1 : List RunPack) : Option Bool :=
 
  bif (↑x0.length : Int) != (↑x1.length : Int) then some false
  else
    (whileF N
          (fun (p2 : Int) =>
            bif decide (p2 < (↑x0.length : Int)) then
              bif decide ((0 : Int) ≤ p2) && decide (p2 < (↑x0.length : Int)) then
                bif decide ((0 : Int) ≤ p2) && decide (p2 < (↑x1.length : Int)) then
                  bif
                      !((x0.getD p2.toNat z_RunPack).Run == (x1.getD p2.toNat z_RunPack).Run &&
                          ((x0.getD p2.toNat z_RunPack).Area == (x1.getD p2.toNat z_RunPack).Area &&
                            ((x0.getD p2.toNat z_RunPack).Pack.Natural == (x1.getD p2.toNat z_RunPack).Pack.Natural &&
                                ((x0.getD p2.toNat z_RunPack).Pack.Machine ==
                                    (x1.getD p2.toNat z_RunPack).Pack.Machine &&
                                  ((x0.getD p2.toNat z_RunPack).Pack.Density ==
                                      (x1.getD p2.toNat z_RunPack).Pack.Density &&
                                    true)) &&
                              true))) then
                    some (Sum.inr (Sum.inr false))
                  else some (Sum.inl (IntKind.i64.wrap (p2 + (1 : Int))))
                else none
              else none
            else some (Sum.inr (Sum.inl ())))
          (0 : Int)).bind
      fun (r3 : Unit ⊕ Bool) => Sum.elim (fun (p4 : Unit) => some true) (fun (p5 : Bool) => some p5) r3
theorem d_r44_SamePacks (N : Nat) : DenF Try.prog 38 ⟨[.l_RunPack, .l_RunPack], [.t_bool], [[none]], r44_SamePacks N⟩ :=
  den_of (N := N) (gam := []) (txt := []) (hints := [(38, [([0, 1, 0, 1, 1], ⟨[0, 1], [.reg 5 .t_i64 [none]], [(.ex 0, []), (.ret, [.reg 4 .t_bool [none]])], []⟩)])]) mixed .nil .nil Try.func38 (by kernel_rfl) (by kernel_rfl)

def r44_sameKind (N : Nat) (x0 x1 : GunKind) : Option Bool :=
 
  (bif x0.ID != x1.ID then some true
      else
        bif x0.Power != x1.Power then some true
        else
          bif x0.Pressure != x1.Pressure then some true
          else some ((↑x0.Output.length : Int) != (↑x1.Output.length : Int))).bind
    fun (r2 : Bool) =>
    bif r2 then some false
    else
      (whileF N
            (fun (p3 : Int) =>
              bif decide (p3 < (↑x0.Output.length : Int)) then
                bif decide ((0 : Int) ≤ p3) && decide (p3 < (↑x0.Output.length : Int)) then
                  bif decide ((0 : Int) ≤ p3) && decide (p3 < (↑x1.Output.length : Int)) then
                    bif
                        !((x0.Output.getD p3.toNat z_Point).X == (x1.Output.getD p3.toNat z_Point).X &&
                            ((x0.Output.getD p3.toNat z_Point).Y == (x1.Output.getD p3.toNat z_Point).Y && true)) then
                      some (Sum.inr (Sum.inr false))
                    else some (Sum.inl (IntKind.i64.wrap (p3 + (1 : Int))))
                  else none
                else none
              else some (Sum.inr (Sum.inl ())))
            (0 : Int)).bind
        fun (r4 : Unit ⊕ Bool) => Sum.elim (fun (p5 : Unit) => some true) (fun (p6 : Bool) => some p6) r4
theorem d_r44_sameKind (N : Nat) : DenF Try.prog 39 ⟨[.t_GunKind, .t_GunKind], [.t_bool], [[none]], r44_sameKind N⟩ :=
  den_of (N := N) (gam := []) (txt := []) (hints := [(39, [([0, 0, 1], ⟨[2, 3], [], [(.nrm, [.reg 33 .t_bool [none]])], []⟩), ([0, 1, 0, 1, 1], ⟨[2, 3], [.reg 5 .t_i64 [none]], [(.ex 0, []), (.ret, [.reg 4 .t_bool [none]])], []⟩)])]) mixed .nil .nil Try.func39 (by kernel_rfl) (by kernel_rfl)

def r44_Same (N : Nat) (x0 x1 : SnowSystem) : Option Bool :=
 
  (bif (↑x0.Ponds.length : Int) != (↑x1.Ponds.length : Int) then some true
      else
        bif (↑x0.Pumps.length : Int) != (↑x1.Pumps.length : Int) then some true
        else
          bif (↑x0.Pipes.length : Int) != (↑x1.Pipes.length : Int) then some true
          else
            bif (↑x0.Kinds.length : Int) != (↑x1.Kinds.length : Int) then some true
            else
              bif (↑x0.Guns.length : Int) != (↑x1.Guns.length : Int) then some true
              else (r44_SamePacks N x0.Packs x1.Packs).bind fun (r2 : Bool) => some !r2).bind
    fun (r3 : Bool) =>
    bif r3 then some false
    else
      (whileF N
            (fun (p4 : Int) =>
              bif decide (p4 < (↑x0.Ponds.length : Int)) then
                bif decide ((0 : Int) ≤ p4) && decide (p4 < (↑x0.Ponds.length : Int)) then
                  bif decide ((0 : Int) ≤ p4) && decide (p4 < (↑x1.Ponds.length : Int)) then
                    bif
                        !((x0.Ponds.getD p4.toNat z_Pond).ID == (x1.Ponds.getD p4.toNat z_Pond).ID &&
                            ((x0.Ponds.getD p4.toNat z_Pond).Volume == (x1.Ponds.getD p4.toNat z_Pond).Volume &&
                              ((x0.Ponds.getD p4.toNat z_Pond).Least == (x1.Ponds.getD p4.toNat z_Pond).Least &&
                                ((x0.Ponds.getD p4.toNat z_Pond).Most == (x1.Ponds.getD p4.toNat z_Pond).Most &&
                                  ((x0.Ponds.getD p4.toNat z_Pond).Inflow == (x1.Ponds.getD p4.toNat z_Pond).Inflow &&
                                    true))))) then
                      some (Sum.inr (Sum.inr false))
                    else some (Sum.inl (IntKind.i64.wrap (p4 + (1 : Int))))
                  else none
                else none
              else some (Sum.inr (Sum.inl ())))
            (0 : Int)).bind
        fun (r5 : Unit ⊕ Bool) =>
        Sum.elim
          (fun (p6 : Unit) =>
            (whileF N
                  (fun (p7 : Int) =>
                    bif decide (p7 < (↑x0.Pumps.length : Int)) then
                      bif decide ((0 : Int) ≤ p7) && decide (p7 < (↑x0.Pumps.length : Int)) then
                        bif decide ((0 : Int) ≤ p7) && decide (p7 < (↑x1.Pumps.length : Int)) then
                          bif
                              !((x0.Pumps.getD p7.toNat z_Pump).ID == (x1.Pumps.getD p7.toNat z_Pump).ID &&
                                  ((x0.Pumps.getD p7.toNat z_Pump).Flow == (x1.Pumps.getD p7.toNat z_Pump).Flow &&
                                    ((x0.Pumps.getD p7.toNat z_Pump).Power == (x1.Pumps.getD p7.toNat z_Pump).Power &&
                                      true))) then
                            some (Sum.inr (Sum.inr false))
                          else some (Sum.inl (IntKind.i64.wrap (p7 + (1 : Int))))
                        else none
                      else none
                    else some (Sum.inr (Sum.inl ())))
                  (0 : Int)).bind
              fun (r8 : Unit ⊕ Bool) =>
              Sum.elim
                (fun (p9 : Unit) =>
                  (whileF N
                        (fun (p10 : Int) =>
                          bif decide (p10 < (↑x0.Pipes.length : Int)) then
                            bif decide ((0 : Int) ≤ p10) && decide (p10 < (↑x0.Pipes.length : Int)) then
                              bif decide ((0 : Int) ≤ p10) && decide (p10 < (↑x1.Pipes.length : Int)) then
                                bif
                                    !((x0.Pipes.getD p10.toNat z_Pipe).ID == (x1.Pipes.getD p10.toNat z_Pipe).ID &&
                                        ((x0.Pipes.getD p10.toNat z_Pipe).From ==
                                            (x1.Pipes.getD p10.toNat z_Pipe).From &&
                                          ((x0.Pipes.getD p10.toNat z_Pipe).To == (x1.Pipes.getD p10.toNat z_Pipe).To &&
                                            ((x0.Pipes.getD p10.toNat z_Pipe).Loss ==
                                                (x1.Pipes.getD p10.toNat z_Pipe).Loss &&
                                              ((x0.Pipes.getD p10.toNat z_Pipe).Rise ==
                                                  (x1.Pipes.getD p10.toNat z_Pipe).Rise &&
                                                true))))) then
                                  some (Sum.inr (Sum.inr false))
                                else some (Sum.inl (IntKind.i64.wrap (p10 + (1 : Int))))
                              else none
                            else none
                          else some (Sum.inr (Sum.inl ())))
                        (0 : Int)).bind
                    fun (r11 : Unit ⊕ Bool) =>
                    Sum.elim
                      (fun (p12 : Unit) =>
                        (whileF N
                              (fun (p13 : Int) =>
                                bif decide (p13 < (↑x0.Guns.length : Int)) then
                                  bif decide ((0 : Int) ≤ p13) && decide (p13 < (↑x0.Guns.length : Int)) then
                                    bif decide ((0 : Int) ≤ p13) && decide (p13 < (↑x1.Guns.length : Int)) then
                                      bif
                                          !((x0.Guns.getD p13.toNat z_Gun).ID == (x1.Guns.getD p13.toNat z_Gun).ID &&
                                              ((x0.Guns.getD p13.toNat z_Gun).Node ==
                                                  (x1.Guns.getD p13.toNat z_Gun).Node &&
                                                ((x0.Guns.getD p13.toNat z_Gun).Run ==
                                                    (x1.Guns.getD p13.toNat z_Gun).Run &&
                                                  ((x0.Guns.getD p13.toNat z_Gun).Kind ==
                                                      (x1.Guns.getD p13.toNat z_Gun).Kind &&
                                                    ((x0.Guns.getD p13.toNat z_Gun).State ==
                                                        (x1.Guns.getD p13.toNat z_Gun).State &&
                                                      ((x0.Guns.getD p13.toNat z_Gun).Since ==
                                                          (x1.Guns.getD p13.toNat z_Gun).Since &&
                                                        ((x0.Guns.getD p13.toNat z_Gun).On ==
                                                            (x1.Guns.getD p13.toNat z_Gun).On &&
                                                          ((x0.Guns.getD p13.toNat z_Gun).Off ==
                                                              (x1.Guns.getD p13.toNat z_Gun).Off &&
                                                            true)))))))) then
                                        some (Sum.inr (Sum.inr false))
                                      else some (Sum.inl (IntKind.i64.wrap (p13 + (1 : Int))))
                                    else none
                                  else none
                                else some (Sum.inr (Sum.inl ())))
                              (0 : Int)).bind
                          fun (r14 : Unit ⊕ Bool) =>
                          Sum.elim
                            (fun (p15 : Unit) =>
                              (whileF N
                                    (fun (p16 : Int) =>
                                      bif decide (p16 < (↑x0.Kinds.length : Int)) then
                                        bif decide ((0 : Int) ≤ p16) && decide (p16 < (↑x0.Kinds.length : Int)) then
                                          bif decide ((0 : Int) ≤ p16) && decide (p16 < (↑x1.Kinds.length : Int)) then
                                            (r44_sameKind N (x0.Kinds.getD p16.toNat z_GunKind)
                                                  (x1.Kinds.getD p16.toNat z_GunKind)).bind
                                              fun (r17 : Bool) =>
                                              bif !r17 then some (Sum.inr (Sum.inr false))
                                              else some (Sum.inl (IntKind.i64.wrap (p16 + (1 : Int))))
                                          else none
                                        else none
                                      else some (Sum.inr (Sum.inl ())))
                                    (0 : Int)).bind
                                fun (r18 : Unit ⊕ Bool) =>
                                Sum.elim
                                  (fun (p19 : Unit) =>
                                    (bif x0.Pressure == x1.Pressure then
                                          bif x0.Limit == x1.Limit then
                                            bif x0.Time == x1.Time then
                                              bif x0.Water == x1.Water then
                                                bif x0.Lost == x1.Lost then
                                                  bif x0.Energy == x1.Energy then some (x0.Inflow == x1.Inflow)
                                                  else some false
                                                else some false
                                              else some false
                                            else some false
                                          else some false
                                        else some false).bind
                                      fun (r20 : Bool) => some r20)
                                  (fun (p21 : Bool) => some p21) r18)
                            (fun (p22 : Bool) => some p22) r14)
                      (fun (p23 : Bool) => some p23) r11)
                (fun (p24 : Bool) => some p24) r8)
          (fun (p25 : Bool) => some p25) r5
theorem d_r44_Same (N : Nat) : DenF Try.prog 14 ⟨[.t_SnowSystem, .t_SnowSystem], [.t_bool], [[none]], r44_Same N⟩ :=
  den_of (N := N) (gam := [(38, ⟨[.l_RunPack, .l_RunPack], [.t_bool], [[none]], r44_SamePacks N⟩), (39, ⟨[.t_GunKind, .t_GunKind], [.t_bool], [[none]], r44_sameKind N⟩)]) (txt := []) (hints := [(14, [([0, 0, 1], ⟨[2, 3], [], [(.nrm, [.reg 60 .t_bool [none]])], []⟩), ([0, 1, 0, 1, 1], ⟨[2, 3], [.reg 5 .t_i64 [none]], [(.ex 0, []), (.ret, [.reg 4 .t_bool [none]])], []⟩), ([0, 1, 0, 1, 1, 1], ⟨[2, 3], [.reg 6 .t_i64 [none]], [(.ex 2, []), (.ret, [.reg 4 .t_bool [none]])], []⟩), ([0, 1, 0, 1, 1, 1, 1], ⟨[2, 3], [.reg 7 .t_i64 [none]], [(.ex 4, []), (.ret, [.reg 4 .t_bool [none]])], []⟩), ([0, 1, 0, 1, 1, 1, 1, 1], ⟨[2, 3], [.reg 8 .t_i64 [none]], [(.ex 6, []), (.ret, [.reg 4 .t_bool [none]])], []⟩), ([0, 1, 0, 1, 1, 1, 1, 1, 1], ⟨[2, 3], [.reg 9 .t_i64 [none]], [(.ex 8, []), (.ret, [.reg 4 .t_bool [none]])], []⟩), ([0, 1, 1, 1, 1, 1, 1, 1], ⟨[], [], [(.nrm, [.reg 4 .t_bool [none]])], []⟩)])]) mixed (.cons (d_r44_SamePacks N) (.cons (d_r44_sameKind N) .nil)) .nil Try.func14 (by kernel_rfl) (by kernel_rfl)

def l44_SnowmakingIdle (N : Nat) (x0 : SnowSystem) (x1 x2 : Int) : Option Bool :=
 
  (l44_alive N).bind fun (r3 : Bool) =>
    bif !r3 then some false
    else
      ((l44_small N x0).bind fun (r4 : Bool) =>
            bif !r4 then some true else (snowmaking_Right N x0).bind fun (r5 : Int) => some (r5 != (0 : Int))).bind
        fun (r6 : Bool) =>
        bif r6 then some true
        else
          (whileF N
                (fun (p7 : Int) =>
                  bif decide (p7 < (↑x0.Guns.length : Int)) then
                    bif decide ((0 : Int) ≤ p7) && decide (p7 < (↑x0.Guns.length : Int)) then
                      bif (x0.Guns.getD p7.toNat z_Gun).State == (1 : Int) then some (Sum.inr (Sum.inr true))
                      else some (Sum.inl (IntKind.i64.wrap (p7 + (1 : Int))))
                    else none
                  else some (Sum.inr (Sum.inl ())))
                (0 : Int)).bind
            fun (r8 : Unit ⊕ Bool) =>
            Sum.elim
              (fun (p9 : Unit) =>
                (snowmaking_Step N x0 x1 x2).bind fun (r10 : SnowSystem × Int) =>
                  bif r10.snd != (0 : Int) then
                    (bif r10.snd == (2 : Int) then some true else some (r10.snd == (12 : Int))).bind fun (r11 : Bool) =>
                      some r11
                  else
                    (bif r10.fst.Time != IntKind.i64.wrap (x0.Time + x2) then some true
                        else
                          bif decide (r10.fst.Inflow < x0.Inflow) then some true
                          else
                            (r39_Total N r10.fst.Ponds).bind fun (r12 : Int) =>
                              (r39_Total N x0.Ponds).bind fun (r13 : Int) =>
                                some
                                  (IntKind.i64.wrap (r12 - r13) != IntKind.i64.wrap (r10.fst.Inflow - x0.Inflow))).bind
                      fun (r14 : Bool) =>
                      bif r14 then some false
                      else
                        (r44_Same N x0
                              (SnowSystem.mk x0.Ponds r10.fst.Pumps r10.fst.Pipes r10.fst.Kinds r10.fst.Guns
                                r10.fst.Packs r10.fst.Pressure r10.fst.Limit x0.Time r10.fst.Water r10.fst.Lost
                                r10.fst.Energy x0.Inflow)).bind
                          fun (r15 : Bool) => some r15)
              (fun (p16 : Bool) => some p16) r8
theorem d_l44_SnowmakingIdle (N : Nat) : DenF Try.prog 5 ⟨[.t_SnowSystem, .t_i64, .t_i64], [.t_bool], [[none]], l44_SnowmakingIdle N⟩ :=
  den_of (N := N) (gam := [(7, ⟨[], [.t_bool], [[none]], l44_alive N⟩), (8, ⟨[.t_SnowSystem], [.t_bool], [[none]], l44_small N⟩), (9, ⟨[.t_SnowSystem], [.t_i64], [[none]], snowmaking_Right N⟩), (13, ⟨[.t_SnowSystem, .t_i64, .t_i64], [.t_SnowSystem, .t_i64], [[none, none, none, none, none, none, none, none, none, none, none, none, none], [none]], snowmaking_Step N⟩), (12, ⟨[.l_Pond], [.t_i64], [[none]], r39_Total N⟩), (14, ⟨[.t_SnowSystem, .t_SnowSystem], [.t_bool], [[none]], r44_Same N⟩)]) (txt := []) (hints := [(5, [([0, 0, 1, 1], ⟨[1, 2, 3], [], [(.nrm, [.reg 19 .t_bool [none]])], []⟩), ([0, 1, 0, 1, 1, 1], ⟨[1, 2, 3], [.reg 7 .t_i64 [none]], [(.ex 0, []), (.ret, [.reg 6 .t_bool [none]])], []⟩), ([0, 0, 1, 0, 1, 1, 1, 1, 1], ⟨[], [], [(.nrm, [.reg 6 .t_bool [none]])], []⟩), ([0, 0, 1, 1, 1, 1, 1, 1], ⟨[3, 8], [], [(.nrm, [.reg 77 .t_bool [none]])], []⟩)])]) mixed (.cons (d_l44_alive N) (.cons (d_l44_small N) (.cons (d_snowmaking_Right N) (.cons (d_snowmaking_Step N) (.cons (d_r39_Total N) (.cons (d_r44_Same N) .nil)))))) .nil Try.func5 (by kernel_rfl) (by kernel_rfl)

def l44_SnowmakingMay (N : Nat) (x0 : SnowSystem) (x1 x2 : Int) : Option Bool :=
 
  (l44_alive N).bind fun (r3 : Bool) =>
    bif !r3 then some false
    else
      ((l44_small N x0).bind fun (r4 : Bool) =>
            bif !r4 then some true else (snowmaking_Right N x0).bind fun (r5 : Int) => some (r5 != (0 : Int))).bind
        fun (r6 : Bool) =>
        bif r6 then some true
        else
          (snowmaking_Switch N x0 x1 true x2).bind fun (r7 : SnowSystem × Int) =>
            bif r7.snd != (0 : Int) then some true
            else
              (snowmaking_Power N r7.fst x2).bind fun (r8 : Int × Int) =>
                (whileF N
                      (fun (p9 : Bool × Int) =>
                        bif decide (p9.snd < (↑r7.fst.Guns.length : Int)) then
                          (bif p9.fst then some true
                              else
                                bif decide ((0 : Int) ≤ p9.snd) && decide (p9.snd < (↑r7.fst.Guns.length : Int)) then
                                  bif (r7.fst.Guns.getD (Int.toNat p9.snd) z_Gun).ID == x1 then
                                    bif
                                        decide ((0 : Int) ≤ p9.snd) &&
                                          decide (p9.snd < (↑r7.fst.Guns.length : Int)) then
                                      some ((r7.fst.Guns.getD (Int.toNat p9.snd) z_Gun).State == (1 : Int))
                                    else none
                                  else some false
                                else none).bind
                            fun (r10 : Bool) => some (Sum.inl (r10, IntKind.i64.wrap (p9.snd + (1 : Int))))
                        else some (Sum.inr p9.fst))
                      (false, (0 : Int))).bind
                  fun (r11 : Bool) =>
                  (bif r8.snd == (0 : Int) then
                        bif decide (r8.fst ≤ r7.fst.Limit) then
                          (snowmaking_Why N r7.fst x2).bind fun (r12 : Int) =>
                            bif r12 == (0 : Int) then some r11 else some false
                        else some false
                      else some false).bind
                    fun (r13 : Bool) => some r13
theorem d_l44_SnowmakingMay (N : Nat) : DenF Try.prog 6 ⟨[.t_SnowSystem, .t_i64, .t_i64], [.t_bool], [[none]], l44_SnowmakingMay N⟩ :=
  den_of (N := N) (gam := [(7, ⟨[], [.t_bool], [[none]], l44_alive N⟩), (8, ⟨[.t_SnowSystem], [.t_bool], [[none]], l44_small N⟩), (9, ⟨[.t_SnowSystem], [.t_i64], [[none]], snowmaking_Right N⟩), (15, ⟨[.t_SnowSystem, .t_i64, .t_bool, .t_i64], [.t_SnowSystem, .t_i64], [[some 44, some 85, some 67, some 57, some 46, some 40, none, none, none, none, none, none, none], [none]], snowmaking_Switch N⟩), (16, ⟨[.t_SnowSystem, .t_i64], [.t_i64, .t_i64], [[none], [none]], snowmaking_Power N⟩), (17, ⟨[.t_SnowSystem, .t_i64], [.t_i64], [[none]], snowmaking_Why N⟩)]) (txt := []) (hints := [(6, [([0, 0, 1, 1], ⟨[1, 2, 3], [], [(.nrm, [.reg 22 .t_bool [none]])], []⟩), ([0, 1, 0, 1, 1, 1, 1, 1, 1, 1], ⟨[1, 2, 7, 9, 10], [.reg 11 .t_bool [none], .reg 12 .t_i64 [none]], [(.ex 0, [.reg 11 .t_bool [none]])], []⟩), ([0, 0, 1, 0, 0, 1, 0, 1, 1, 1, 1, 1, 1, 1], ⟨[1, 2, 7, 9, 10, 12], [], [(.nrm, [.reg 11 .t_bool [none]])], []⟩), ([0, 1, 1, 1, 1, 1, 1, 1, 1], ⟨[], [], [(.nrm, [.reg 6 .t_bool [none]])], []⟩)])]) mixed (.cons (d_l44_alive N) (.cons (d_l44_small N) (.cons (d_snowmaking_Right N) (.cons (d_snowmaking_Switch N) (.cons (d_snowmaking_Power N) (.cons (d_snowmaking_Why N) .nil)))))) .nil Try.func6 (by kernel_rfl) (by kernel_rfl)
end Go.Proofs.Ytkhkblihdabnoaa
