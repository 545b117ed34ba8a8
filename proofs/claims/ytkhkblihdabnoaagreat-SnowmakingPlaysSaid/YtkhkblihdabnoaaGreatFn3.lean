/- Written by a program (gen.py, asm.py): what each function computes, as a plain function, and that its text computes it. No condition. -/
import Derived.Test.YtkhkblihdabnoaaGreatFn2
import Derived.Test.YtkhkblihdabnoaaGreatCmo
namespace Go.Proofs.YtkhkblihdabnoaaGreat
open Go.Cm Go.Proofs
set_option linter.unusedVariables false
set_option maxRecDepth 100000

def snowmaking_Power (N : Nat) (x0 : SnowSystem) (x1 : Int) : Option (Int × Int) :=
 
  (gun_Draws N x0.Kinds x0.Guns x1).bind fun (r2 : List Draw) =>
    (whileF N
          (fun (p3 : Int × Int) =>
            bif decide (p3.snd < (↑r2.length : Int)) then
              bif decide ((0 : Int) ≤ p3.snd) && decide (p3.snd < (↑r2.length : Int)) then
                some
                  (Sum.inl
                    (IntKind.i64.wrap (p3.fst + (r2.getD (Int.toNat p3.snd) z_Draw).Flow),
                      IntKind.i64.wrap (p3.snd + (1 : Int))))
              else none
            else some (Sum.inr p3.fst))
          ((0 : Int), (0 : Int))).bind
      fun (r4 : Int) =>
      (pump_Best N x0.Pumps r4).bind fun (r5 : List Int × Int × Int) =>
        bif r5.snd.snd != (0 : Int) then some ((0 : Int), r5.snd.snd)
        else (gun_Power N x0.Kinds x0.Guns).bind fun (r6 : Int) => some (IntKind.i64.wrap (r5.snd.fst + r6), (0 : Int))
theorem d_snowmaking_Power (N : Nat) : DenF Tryz.prog 10 ⟨[.t_SnowSystem, .t_i64], [.t_i64, .t_i64], [[none], [none]], snowmaking_Power N⟩ :=
  den_of (N := N) (gam := [(40, ⟨[.l_GunKind, .l_Gun, .t_i64], [.l_Draw], [[some 77]], gun_Draws N⟩), (41, ⟨[.l_Pump, .t_i64], [.l_i64, .t_i64, .t_i64], [[none], [none], [none]], pump_Best N⟩), (42, ⟨[.l_GunKind, .l_Gun], [.t_i64], [[none]], gun_Power N⟩)]) (txt := []) (hints := [(10, [([0, 1, 0, 1, 1], ⟨[2, 17, 18], [.reg 6 .t_i64 [none], .reg 19 .t_i64 [none]], [(.ex 0, [.reg 6 .t_i64 [none]])], []⟩)])]) mixed (.cons (d_gun_Draws N) (.cons (d_pump_Best N) (.cons (d_gun_Power N) .nil))) .nil Tryz.func10 (by kernel_rfl) (by kernel_rfl)

def gun_Needs (N : Nat) (x0 : List GunKind) (x1 : List Gun) : Option ((List Draw)) :=
 
  (whileF N
        (fun (p2 : List Draw × Int) =>
          bif decide (p2.snd < (↑x1.length : Int)) then
            bif decide ((0 : Int) ≤ p2.snd) && decide (p2.snd < (↑x1.length : Int)) then
              (bif (x1.getD (Int.toNat p2.snd) z_Gun).State == (1 : Int) then
                    (gun_kind N x0 (x1.getD (Int.toNat p2.snd) z_Gun).Kind).bind fun (r3 : GunKind) =>
                      (some [Draw.mk (x1.getD (Int.toNat p2.snd) z_Gun).Node r3.Pressure]).bind fun (r4 : List Draw) =>
                        bif decide ((List.length p2.fst + r4.length) * 16 ≤ 140737488355328) then
                          (some (p2.fst ++ r4)).bind fun (r5 : List Draw) => some r5
                        else none
                  else some p2.fst).bind
                fun (r6 : List Draw) => some (Sum.inl (r6, IntKind.i64.wrap (p2.snd + (1 : Int))))
            else none
          else some (Sum.inr p2.fst))
        ([], (0 : Int))).bind
    fun (r7 : List Draw) => some r7
theorem d_gun_Needs (N : Nat) : DenF Tryz.prog 47 ⟨[.l_GunKind, .l_Gun], [.l_Draw], [[some 77]], gun_Needs N⟩ :=
  den_of (N := N) (gam := [(83, ⟨[.l_GunKind, .t_i64], [.t_GunKind], [[none, none, none, none]], gun_kind N⟩)]) (txt := []) (hints := [(47, [([0, 1, 0, 1, 1], ⟨[0, 8, 9], [.reg 5 .l_Draw [some 77], .reg 10 .t_i64 [none]], [(.ex 0, [.reg 5 .l_Draw [some 77]])], []⟩), ([1, 1, 0, 0, 1, 1, 0, 0, 1, 0, 1, 1], ⟨[0, 8, 9, 10], [], [(.nrm, [.reg 5 .l_Draw [some 77]])], []⟩)])]) mixed (.cons (d_gun_kind N) .nil) .nil Tryz.func47 (by kernel_rfl) (by kernel_rfl)

def pipe_find (N : Nat) (x0 : List Pipe) (x1 : Int) : Option Int :=
 
  (whileF N
        (fun (p2 : Int) =>
          bif decide (p2 < (↑x0.length : Int)) then
            bif decide ((0 : Int) ≤ p2) && decide (p2 < (↑x0.length : Int)) then
              bif (x0.getD p2.toNat z_Pipe).To == x1 then some (Sum.inr (Sum.inr p2))
              else some (Sum.inl (IntKind.i64.wrap (p2 + (1 : Int))))
            else none
          else some (Sum.inr (Sum.inl ())))
        (0 : Int)).bind
    fun (r3 : Unit ⊕ Int) => Sum.elim (fun (p4 : Unit) => some (-1 : Int)) (fun (p5 : Int) => some p5) r3
theorem d_pipe_find (N : Nat) : DenF Tryz.prog 71 ⟨[.l_Pipe, .t_i64], [.t_i64], [[none]], pipe_find N⟩ :=
  den_of (N := N) (gam := []) (txt := [(112, Tryz.f112), (76, Tryz.f76)]) (hints := [(76, [([0, 1, 0, 1], ⟨[0, 1, 7], [.reg 8 .t_i64 [none]], [(.ex 0, []), (.ret, [.reg 4 .t_i64 [none]])], []⟩)])]) mixed .nil (.cons Tryz.func112 (.cons Tryz.func76 .nil)) Tryz.func71 (by kernel_rfl) (by kernel_rfl)

def pipe_Flows (N : Nat) (x0 : List Pipe) (x1 : List Draw) : Option ((List Int)) :=
 
  bif
      true &&
        (decide ((↑x0.length : Int) ≤ (↑x0.length : Int)) &&
          decide ((↑x0.length : Int) * (8 : Int) ≤ (140737488355328 : Int))) then
    (some (List.replicate (↑x0.length : Int).toNat (0 : Int))).bind fun (r2 : List Int) =>
      (whileF N
            (fun (p3 : Int × List Int) =>
              bif decide (p3.fst < (↑x1.length : Int)) then
                bif decide ((0 : Int) ≤ p3.fst) && decide (p3.fst < (↑x1.length : Int)) then
                  (pipe_find N x0 (x1.getD (Int.toNat p3.fst) z_Draw).Node).bind fun (r4 : Int) =>
                    bif decide (r4 ≥ (0 : Int)) then
                      bif decide ((0 : Int) ≤ r4) && decide (r4 < (↑(List.length p3.snd) : Int)) then
                        bif decide ((0 : Int) ≤ r4) && decide (r4 < (↑(List.length p3.snd) : Int)) then
                          (some
                                (List.set p3.snd r4.toNat
                                  (IntKind.i64.wrap
                                    (List.getD p3.snd r4.toNat (0 : Int) +
                                      (x1.getD (Int.toNat p3.fst) z_Draw).Flow)))).bind
                            fun (r5 : List Int) => some (Sum.inl (IntKind.i64.wrap (p3.fst + (1 : Int)), r5))
                        else none
                      else none
                    else some (Sum.inl (IntKind.i64.wrap (p3.fst + (1 : Int)), p3.snd))
                else none
              else some (Sum.inr p3.snd))
            ((0 : Int), r2)).bind
        fun (r6 : List Int) =>
        (whileF N
              (fun (p7 : Int × List Int) =>
                bif decide (p7.fst ≥ (0 : Int)) then
                  bif decide ((0 : Int) ≤ p7.fst) && decide (p7.fst < (↑x0.length : Int)) then
                    bif decide ((0 : Int) ≤ p7.fst) && decide (p7.fst < (↑(List.length p7.snd) : Int)) then
                      (pipe_find N x0 (x0.getD (Int.toNat p7.fst) z_Pipe).From).bind fun (r8 : Int) =>
                        bif decide (r8 ≥ (0 : Int)) then
                          bif decide ((0 : Int) ≤ r8) && decide (r8 < (↑(List.length p7.snd) : Int)) then
                            bif decide ((0 : Int) ≤ r8) && decide (r8 < (↑(List.length p7.snd) : Int)) then
                              (some
                                    (List.set p7.snd r8.toNat
                                      (IntKind.i64.wrap
                                        (List.getD p7.snd r8.toNat (0 : Int) +
                                          List.getD p7.snd (Int.toNat p7.fst) (0 : Int))))).bind
                                fun (r9 : List Int) => some (Sum.inl (IntKind.i64.wrap (p7.fst - (1 : Int)), r9))
                            else none
                          else none
                        else some (Sum.inl (IntKind.i64.wrap (p7.fst - (1 : Int)), p7.snd))
                    else none
                  else none
                else some (Sum.inr p7.snd))
              (IntKind.i64.wrap ((↑x0.length : Int) - (1 : Int)), r6)).bind
          fun (r10 : List Int) => some r10
  else none
theorem d_pipe_Flows (N : Nat) : DenF Tryz.prog 122 ⟨[.l_Pipe, .l_Draw], [.l_i64], [[some 3]], pipe_Flows N⟩ :=
  den_of (N := N) (gam := [(71, ⟨[.l_Pipe, .t_i64], [.t_i64], [[none]], pipe_find N⟩)]) (txt := [(144, Tryz.f144)]) (hints := [(122, [([0, 1, 0, 1, 1, 1], ⟨[2, 5, 6, 14, 15], [.reg 16 .t_i64 [none], .rowc 5 0 .l_i64], [(.ex 0, [.rowc 5 0 .l_i64])], []⟩), ([0, 1, 0, 1, 1, 1, 1], ⟨[2, 5, 6], [.reg 9 .t_i64 [none], .rowc 5 0 .l_i64], [(.ex 2, [.rowc 5 0 .l_i64])], []⟩)])]) mixed (.cons (d_pipe_find N) .nil) (.cons Tryz.func144 .nil) Tryz.func122 (by kernel_rfl) (by kernel_rfl)

def pipe_Low (N : Nat) (x0 : List Pipe) (x1 : List Draw) (x2 : Int) (x3 : List Draw) : Option ((List Int)) :=
 
  (pipe_Flows N x0 x1).bind fun (r4 : List Int) =>
    bif
        true &&
          (decide ((↑x0.length : Int) ≤ (↑x0.length : Int)) &&
            decide ((↑x0.length : Int) * (8 : Int) ≤ (140737488355328 : Int))) then
      (some (List.replicate (↑x0.length : Int).toNat (0 : Int))).bind fun (r5 : List Int) =>
        (whileF N
              (fun (p6 : Int × List Int) =>
                bif decide (p6.fst < (↑x0.length : Int)) then
                  bif decide ((0 : Int) ≤ p6.fst) && decide (p6.fst < (↑x0.length : Int)) then
                    bif (x0.getD (Int.toNat p6.fst) z_Pipe).From == (0 : Int) then
                      bif decide ((0 : Int) ≤ p6.fst) && decide (p6.fst < (↑r4.length : Int)) then
                        bif decide ((0 : Int) ≤ p6.fst) && decide (p6.fst < (↑(List.length p6.snd) : Int)) then
                          (some
                                (List.set p6.snd (Int.toNat p6.fst)
                                  (IntKind.i64.wrap
                                    (IntKind.i64.wrap (x2 - (x0.getD (Int.toNat p6.fst) z_Pipe).Rise) -
                                      IntKind.i64.wrap
                                        ((IntKind.i64.wrap
                                              ((x0.getD (Int.toNat p6.fst) z_Pipe).Loss *
                                                r4.getD (Int.toNat p6.fst) (0 : Int))).tdiv
                                          (1000 : Int)))))).bind
                            fun (r7 : List Int) => some (Sum.inl (IntKind.i64.wrap (p6.fst + (1 : Int)), r7))
                        else none
                      else none
                    else
                      (pipe_find N x0 (x0.getD (Int.toNat p6.fst) z_Pipe).From).bind fun (r8 : Int) =>
                        bif decide (r8 < (0 : Int)) then
                          bif decide ((0 : Int) ≤ p6.fst) && decide (p6.fst < (↑r4.length : Int)) then
                            bif decide ((0 : Int) ≤ p6.fst) && decide (p6.fst < (↑(List.length p6.snd) : Int)) then
                              (some
                                    (List.set p6.snd (Int.toNat p6.fst)
                                      (IntKind.i64.wrap
                                        (IntKind.i64.wrap ((0 : Int) - (x0.getD (Int.toNat p6.fst) z_Pipe).Rise) -
                                          IntKind.i64.wrap
                                            ((IntKind.i64.wrap
                                                  ((x0.getD (Int.toNat p6.fst) z_Pipe).Loss *
                                                    r4.getD (Int.toNat p6.fst) (0 : Int))).tdiv
                                              (1000 : Int)))))).bind
                                fun (r9 : List Int) => some (Sum.inl (IntKind.i64.wrap (p6.fst + (1 : Int)), r9))
                            else none
                          else none
                        else
                          bif decide ((0 : Int) ≤ r8) && decide (r8 < (↑(List.length p6.snd) : Int)) then
                            bif decide ((0 : Int) ≤ p6.fst) && decide (p6.fst < (↑r4.length : Int)) then
                              bif decide ((0 : Int) ≤ p6.fst) && decide (p6.fst < (↑(List.length p6.snd) : Int)) then
                                (some
                                      (List.set p6.snd (Int.toNat p6.fst)
                                        (IntKind.i64.wrap
                                          (IntKind.i64.wrap
                                              (List.getD p6.snd r8.toNat (0 : Int) -
                                                (x0.getD (Int.toNat p6.fst) z_Pipe).Rise) -
                                            IntKind.i64.wrap
                                              ((IntKind.i64.wrap
                                                    ((x0.getD (Int.toNat p6.fst) z_Pipe).Loss *
                                                      r4.getD (Int.toNat p6.fst) (0 : Int))).tdiv
                                                (1000 : Int)))))).bind
                                  fun (r10 : List Int) => some (Sum.inl (IntKind.i64.wrap (p6.fst + (1 : Int)), r10))
                              else none
                            else none
                          else none
                  else none
                else some (Sum.inr p6.snd))
              ((0 : Int), r5)).bind
          fun (r11 : List Int) =>
          (whileF N
                (fun (p12 : List Int × Int) =>
                  bif decide (p12.snd < (↑x3.length : Int)) then
                    bif decide ((0 : Int) ≤ p12.snd) && decide (p12.snd < (↑x3.length : Int)) then
                      bif (x3.getD (Int.toNat p12.snd) z_Draw).Node == (0 : Int) then
                        (some (decide (x2 < (x3.getD (Int.toNat p12.snd) z_Draw).Flow))).bind fun (r13 : Bool) =>
                          (bif r13 then
                                (some [(x3.getD (Int.toNat p12.snd) z_Draw).Node]).bind fun (r14 : List Int) =>
                                  bif
                                      decide
                                        ((List.length p12.fst + r14.length) * 8 ≤ 140737488355328) then
                                    (some (p12.fst ++ r14)).bind fun (r15 : List Int) => some r15
                                  else none
                              else some p12.fst).bind
                            fun (r16 : List Int) => some (Sum.inl (r16, IntKind.i64.wrap (p12.snd + (1 : Int))))
                      else
                        (pipe_find N x0 (x3.getD (Int.toNat p12.snd) z_Draw).Node).bind fun (r17 : Int) =>
                          bif decide (r17 < (0 : Int)) then
                            ((some [(x3.getD (Int.toNat p12.snd) z_Draw).Node]).bind fun (r18 : List Int) =>
                                  bif
                                      decide
                                        ((List.length p12.fst + r18.length) * 8 ≤ 140737488355328) then
                                    (some (p12.fst ++ r18)).bind fun (r19 : List Int) => some r19
                                  else none).bind
                              fun (r20 : List Int) => some (Sum.inl (r20, IntKind.i64.wrap (p12.snd + (1 : Int))))
                          else
                            bif decide ((0 : Int) ≤ r17) && decide (r17 < (↑r11.length : Int)) then
                              (some
                                    (decide
                                      (r11.getD r17.toNat (0 : Int) < (x3.getD (Int.toNat p12.snd) z_Draw).Flow))).bind
                                fun (r21 : Bool) =>
                                (bif r21 then
                                      (some [(x3.getD (Int.toNat p12.snd) z_Draw).Node]).bind fun (r22 : List Int) =>
                                        bif
                                            decide
                                              ((List.length p12.fst + r22.length) * 8 ≤
                                                140737488355328) then
                                          (some (p12.fst ++ r22)).bind fun (r23 : List Int) => some r23
                                        else none
                                    else some p12.fst).bind
                                  fun (r24 : List Int) => some (Sum.inl (r24, IntKind.i64.wrap (p12.snd + (1 : Int))))
                            else none
                    else none
                  else some (Sum.inr p12.fst))
                ([], (0 : Int))).bind
            fun (r25 : List Int) => some r25
    else none
theorem d_pipe_Low (N : Nat) : DenF Tryz.prog 46 ⟨[.l_Pipe, .l_Draw, .t_i64, .l_Draw], [.l_i64], [[some 3]], pipe_Low N⟩ :=
  den_of (N := N) (gam := [(122, ⟨[.l_Pipe, .l_Draw], [.l_i64], [[some 3]], pipe_Flows N⟩), (71, ⟨[.l_Pipe, .t_i64], [.t_i64], [[none]], pipe_find N⟩)]) (txt := [(94, Tryz.f94), (123, Tryz.f123)]) (hints := [(46, [([0, 1, 0, 1, 1, 1], ⟨[9, 19, 20], [.reg 10 .l_i64 [some 3], .reg 21 .t_i64 [none]], [(.ex 0, [.reg 10 .l_i64 [some 3]])], []⟩), ([0, 1, 1, 0, 0, 1, 1, 0, 0, 1, 0, 1, 1, 1], ⟨[9, 10, 12, 19, 20, 21], [], [(.nrm, [.reg 39 .t_bool [none]])], []⟩), ([1, 1, 1, 0, 0, 1, 1, 0, 0, 1, 0, 1, 1, 1], ⟨[9, 19, 20, 21], [], [(.nrm, [.reg 10 .l_i64 [some 3]])], []⟩)]), (94, [([0, 1, 0, 1, 1, 1, 1], ⟨[7, 8, 9, 21, 22], [.reg 23 .t_i64 [none], .rowc 8 0 .l_i64], [(.ex 0, [.rowc 8 0 .l_i64])], []⟩)])]) mixed (.cons (d_pipe_Flows N) (.cons (d_pipe_find N) .nil)) (.cons Tryz.func94 (.cons Tryz.func123 .nil)) Tryz.func46 (by kernel_rfl) (by kernel_rfl)

def snowmaking_Why (N : Nat) (x0 : SnowSystem) (x1 : Int) : Option Int :=
 
  (snowmaking_Power N x0 x1).bind fun (r2 : Int × Int) =>
    bif r2.snd != (0 : Int) then some r2.snd
    else
      bif decide (r2.fst > x0.Limit) then some (13 : Int)
      else
        (gun_Draws N x0.Kinds x0.Guns x1).bind fun (r3 : List Draw) =>
          (gun_Needs N x0.Kinds x0.Guns).bind fun (r4 : List Draw) =>
            (pipe_Low N x0.Pipes r3 x0.Pressure r4).bind fun (r5 : List Int) =>
              bif decide ((↑r5.length : Int) > (0 : Int)) then some (5 : Int) else some (0 : Int)
theorem d_snowmaking_Why (N : Nat) : DenF Tryz.prog 12 ⟨[.t_SnowSystem, .t_i64], [.t_i64], [[none]], snowmaking_Why N⟩ :=
  den_of (N := N) (gam := [(10, ⟨[.t_SnowSystem, .t_i64], [.t_i64, .t_i64], [[none], [none]], snowmaking_Power N⟩), (40, ⟨[.l_GunKind, .l_Gun, .t_i64], [.l_Draw], [[some 77]], gun_Draws N⟩), (47, ⟨[.l_GunKind, .l_Gun], [.l_Draw], [[some 77]], gun_Needs N⟩), (46, ⟨[.l_Pipe, .l_Draw, .t_i64, .l_Draw], [.l_i64], [[some 3]], pipe_Low N⟩)]) (txt := []) (hints := []) mixed (.cons (d_snowmaking_Power N) (.cons (d_gun_Draws N) (.cons (d_gun_Needs N) (.cons (d_pipe_Low N) .nil)))) .nil Tryz.func12 (by kernel_rfl) (by kernel_rfl)

def snowmaking_Switch (N : Nat) (x0 : SnowSystem) (x1 : Int) (x2 : Bool) (x3 : Int) : Option (SnowSystem × Int) :=
 
  (whileF N
        (fun (p4 : Int) =>
          bif decide (p4 < (↑x0.Guns.length : Int)) then
            bif decide ((0 : Int) ≤ p4) && decide (p4 < (↑x0.Guns.length : Int)) then
              bif (x0.Guns.getD p4.toNat z_Gun).ID == x1 then some (Sum.inr (Sum.inr p4))
              else some (Sum.inl (IntKind.i64.wrap (p4 + (1 : Int))))
            else none
          else some (Sum.inr (Sum.inl ())))
        (0 : Int)).bind
    fun (r5 : Unit ⊕ Int) =>
    Sum.elim (fun (p6 : Unit) => some (z_SnowSystem, (8 : Int)))
      (fun (p7 : Int) =>
        bif decide (p7 < (0 : Int)) then some (z_SnowSystem, (8 : Int))
        else
          bif x2 then
            bif decide ((0 : Int) ≤ p7) && decide (p7 < (↑x0.Guns.length : Int)) then
              (gun_Start N (x0.Guns.getD p7.toNat z_Gun) x0.Time).bind fun (r8 : Gun × Int) =>
                bif r8.snd != (0 : Int) then some (z_SnowSystem, r8.snd)
                else
                  (snowmaking_copyOf N x0).bind fun (r9 : SnowSystem) =>
                    bif decide ((0 : Int) ≤ p7) && decide (p7 < (↑r9.Guns.length : Int)) then
                      (some (r9.Guns.set p7.toNat r8.fst)).bind fun (r10 : List Gun) =>
                        (bif x2 then
                              (snowmaking_Why N
                                    (SnowSystem.mk r9.Ponds r9.Pumps r9.Pipes r9.Kinds r10 r9.Packs r9.Pressure r9.Limit
                                      r9.Time r9.Water r9.Lost r9.Energy r9.Inflow)
                                    x3).bind
                                fun (r11 : Int) =>
                                bif r11 != (0 : Int) then some (Sum.inr (r11, z_SnowSystem))
                                else some (Sum.inl z_SnowSystem)
                            else some (Sum.inl z_SnowSystem)).bind
                          fun (r12 : SnowSystem ⊕ Int × SnowSystem) =>
                          Sum.elim
                            (fun (p13 : SnowSystem) =>
                              some
                                (SnowSystem.mk r9.Ponds r9.Pumps r9.Pipes r9.Kinds r10 r9.Packs r9.Pressure r9.Limit
                                    r9.Time r9.Water r9.Lost r9.Energy r9.Inflow,
                                  (0 : Int)))
                            (fun (p14 : Int × SnowSystem) => some (p14.snd, p14.fst)) r12
                    else none
            else none
          else
            bif decide ((0 : Int) ≤ p7) && decide (p7 < (↑x0.Guns.length : Int)) then
              (gun_Stop N (x0.Guns.getD p7.toNat z_Gun) x0.Time).bind fun (r15 : Gun × Int) =>
                bif r15.snd != (0 : Int) then some (z_SnowSystem, r15.snd)
                else
                  (snowmaking_copyOf N x0).bind fun (r16 : SnowSystem) =>
                    bif decide ((0 : Int) ≤ p7) && decide (p7 < (↑r16.Guns.length : Int)) then
                      (some (r16.Guns.set p7.toNat r15.fst)).bind fun (r17 : List Gun) =>
                        (bif x2 then
                              (snowmaking_Why N
                                    (SnowSystem.mk r16.Ponds r16.Pumps r16.Pipes r16.Kinds r17 r16.Packs r16.Pressure
                                      r16.Limit r16.Time r16.Water r16.Lost r16.Energy r16.Inflow)
                                    x3).bind
                                fun (r18 : Int) =>
                                bif r18 != (0 : Int) then some (Sum.inr (r18, z_SnowSystem))
                                else some (Sum.inl z_SnowSystem)
                            else some (Sum.inl z_SnowSystem)).bind
                          fun (r19 : SnowSystem ⊕ Int × SnowSystem) =>
                          Sum.elim
                            (fun (p20 : SnowSystem) =>
                              some
                                (SnowSystem.mk r16.Ponds r16.Pumps r16.Pipes r16.Kinds r17 r16.Packs r16.Pressure
                                    r16.Limit r16.Time r16.Water r16.Lost r16.Energy r16.Inflow,
                                  (0 : Int)))
                            (fun (p21 : Int × SnowSystem) => some (p21.snd, p21.fst)) r19
                    else none
            else none)
      r5
theorem d_snowmaking_Switch (N : Nat) : DenF Tryz.prog 22 ⟨[.t_SnowSystem, .t_i64, .t_bool, .t_i64], [.t_SnowSystem, .t_i64], [[some 49, some 95, some 68, some 56, some 63, some 53, none, none, none, none, none, none, none], [none]], snowmaking_Switch N⟩ :=
  den_of (N := N) (gam := [(62, ⟨[.t_Gun, .t_i64], [.t_Gun, .t_i64], [[none, none, none, none, none, none, none, none], [none]], gun_Stop N⟩), (63, ⟨[.t_Gun, .t_i64], [.t_Gun, .t_i64], [[none, none, none, none, none, none, none, none], [none]], gun_Start N⟩), (64, ⟨[.t_SnowSystem], [.t_SnowSystem], [[some 49, some 95, some 68, some 56, some 63, some 53, none, none, none, none, none, none, none]], snowmaking_copyOf N⟩), (12, ⟨[.t_SnowSystem, .t_i64], [.t_i64], [[none]], snowmaking_Why N⟩)]) (txt := [(61, Tryz.f61), (60, Tryz.f60)]) (hints := [(22, [([1, 0, 1, 1, 1, 1, 1, 1, 1, 1, 1], ⟨[8, 14], [], [(.nrm, [.var 8 .t_SnowSystem [some 49, some 95, some 68, some 56, some 63, some 53, none, none, none, none, none, none, none]]), (.ret, [.reg 9 .t_i64 [none], .var 8 .t_SnowSystem [some 49, some 95, some 68, some 56, some 63, some 53, none, none, none, none, none, none, none]])], []⟩)]), (60, [([0, 1, 0, 1], ⟨[0, 1, 7], [.reg 8 .t_i64 [none]], [(.ex 0, []), (.ret, [.reg 4 .t_i64 [none]])], []⟩)])]) mixed (.cons (d_gun_Stop N) (.cons (d_gun_Start N) (.cons (d_snowmaking_copyOf N) (.cons (d_snowmaking_Why N) .nil)))) (.cons Tryz.func61 (.cons Tryz.func60 .nil)) Tryz.func22 (by kernel_rfl) (by kernel_rfl)

def pond_Right (N : Nat) (x0 : List Pond) : Option Int :=
 
  bif decide ((↑x0.length : Int) > (8 : Int)) then some (4 : Int)
  else
    (whileF N
          (fun (p1 : Int × (Int → Option Bool)) =>
            bif decide (p1.fst < (↑x0.length : Int)) then
              bif decide ((0 : Int) ≤ p1.fst) && decide (p1.fst < (↑x0.length : Int)) then
                (bif decide ((x0.getD (Int.toNat p1.fst) z_Pond).ID < (1 : Int)) then some true
                    else
                      bif decide ((x0.getD (Int.toNat p1.fst) z_Pond).ID > (9999 : Int)) then some true
                      else
                        bif decide ((x0.getD (Int.toNat p1.fst) z_Pond).Inflow < (0 : Int)) then some true
                        else some (decide ((x0.getD (Int.toNat p1.fst) z_Pond).Inflow > (10000000 : Int)))).bind
                  fun (r2 : Bool) =>
                  bif r2 then some (Sum.inr (Sum.inr ((2 : Int), p1.snd)))
                  else
                    (bif decide ((x0.getD (Int.toNat p1.fst) z_Pond).Least < (0 : Int)) then some true
                        else
                          bif
                              decide
                                ((x0.getD (Int.toNat p1.fst) z_Pond).Volume <
                                  (x0.getD (Int.toNat p1.fst) z_Pond).Least) then
                            some true
                          else
                            bif
                                decide
                                  ((x0.getD (Int.toNat p1.fst) z_Pond).Most <
                                    (x0.getD (Int.toNat p1.fst) z_Pond).Volume) then
                              some true
                            else some (decide ((x0.getD (Int.toNat p1.fst) z_Pond).Most > (1000000000 : Int)))).bind
                      fun (r3 : Bool) =>
                      bif r3 then some (Sum.inr (Sum.inr ((2 : Int), p1.snd)))
                      else
                        bif (p1.snd (x0.getD (Int.toNat p1.fst) z_Pond).ID).getD false then
                          some (Sum.inr (Sum.inr ((7 : Int), p1.snd)))
                        else
                          some
                            (Sum.inl
                              (IntKind.i64.wrap (p1.fst + (1 : Int)), fun (u : Int) =>
                                bif u == (x0.getD (Int.toNat p1.fst) z_Pond).ID then some true else p1.snd u))
              else none
            else some (Sum.inr (Sum.inl p1.snd)))
          ((0 : Int), fun (x : Int) => none)).bind
      fun (r4 : (Int → Option Bool) ⊕ Int × (Int → Option Bool)) =>
      Sum.elim (fun (p5 : Int → Option Bool) => some (0 : Int)) (fun (p6 : Int × (Int → Option Bool)) => some p6.fst) r4
theorem d_pond_Right (N : Nat) : DenF Tryz.prog 24 ⟨[.l_Pond], [.t_i64], [[none]], pond_Right N⟩ :=
  den_of (N := N) (gam := []) (txt := []) (hints := [(24, [([0, 1, 0, 1, 1, 1], ⟨[3, 10, 11], [.reg 12 .t_i64 [none], .mapr 3 .t_bool], [(.ex 0, [.mapr 3 .t_bool]), (.ret, [.reg 2 .t_i64 [none], .mapr 3 .t_bool])], []⟩), ([0, 0, 1, 0, 0, 1, 1, 0, 0, 1, 0, 1, 1, 1], ⟨[3, 5, 10, 11, 12], [], [(.nrm, [.reg 33 .t_bool [none]])], []⟩), ([0, 0, 1, 1, 0, 0, 1, 1, 0, 0, 1, 0, 1, 1, 1], ⟨[3, 5, 10, 11, 12], [], [(.nrm, [.reg 55 .t_bool [none]])], []⟩)])]) mixed .nil .nil Tryz.func24 (by kernel_rfl) (by kernel_rfl)

def pump_Right (N : Nat) (x0 : List Pump) : Option Int :=
 
  bif decide ((↑x0.length : Int) > (8 : Int)) then some (4 : Int)
  else
    (whileF N
          (fun (p1 : Int × (Int → Option Bool)) =>
            bif decide (p1.fst < (↑x0.length : Int)) then
              bif decide ((0 : Int) ≤ p1.fst) && decide (p1.fst < (↑x0.length : Int)) then
                (bif decide ((x0.getD (Int.toNat p1.fst) z_Pump).ID < (1 : Int)) then some true
                    else
                      bif decide ((x0.getD (Int.toNat p1.fst) z_Pump).ID > (9999 : Int)) then some true
                      else
                        bif decide ((x0.getD (Int.toNat p1.fst) z_Pump).Flow < (1 : Int)) then some true
                        else
                          bif decide ((x0.getD (Int.toNat p1.fst) z_Pump).Flow > (1000000 : Int)) then some true
                          else
                            bif decide ((x0.getD (Int.toNat p1.fst) z_Pump).Power < (1 : Int)) then some true
                            else some (decide ((x0.getD (Int.toNat p1.fst) z_Pump).Power > (100000000 : Int)))).bind
                  fun (r2 : Bool) =>
                  bif r2 then some (Sum.inr (Sum.inr ((2 : Int), p1.snd)))
                  else
                    bif (p1.snd (x0.getD (Int.toNat p1.fst) z_Pump).ID).getD false then
                      some (Sum.inr (Sum.inr ((7 : Int), p1.snd)))
                    else
                      some
                        (Sum.inl
                          (IntKind.i64.wrap (p1.fst + (1 : Int)), fun (u : Int) =>
                            bif u == (x0.getD (Int.toNat p1.fst) z_Pump).ID then some true else p1.snd u))
              else none
            else some (Sum.inr (Sum.inl p1.snd)))
          ((0 : Int), fun (x : Int) => none)).bind
      fun (r3 : (Int → Option Bool) ⊕ Int × (Int → Option Bool)) =>
      Sum.elim (fun (p4 : Int → Option Bool) => some (0 : Int)) (fun (p5 : Int × (Int → Option Bool)) => some p5.fst) r3
theorem d_pump_Right (N : Nat) : DenF Tryz.prog 25 ⟨[.l_Pump], [.t_i64], [[none]], pump_Right N⟩ :=
  den_of (N := N) (gam := []) (txt := []) (hints := [(25, [([0, 1, 0, 1, 1, 1], ⟨[3, 10, 11], [.reg 12 .t_i64 [none], .mapr 3 .t_bool], [(.ex 0, [.mapr 3 .t_bool]), (.ret, [.reg 2 .t_i64 [none], .mapr 3 .t_bool])], []⟩), ([0, 0, 1, 0, 0, 1, 1, 0, 0, 1, 0, 1, 1, 1], ⟨[3, 5, 10, 11, 12], [], [(.nrm, [.reg 43 .t_bool [none]])], []⟩)])]) mixed .nil .nil Tryz.func25 (by kernel_rfl) (by kernel_rfl)

def pipe_Right (N : Nat) (x0 : List Pipe) : Option Int :=
 
  bif decide ((↑x0.length : Int) > (64 : Int)) then some (4 : Int)
  else
    (whileF N
          (fun (p1 : Int) =>
            bif decide (p1 < (↑x0.length : Int)) then
              bif decide ((0 : Int) ≤ p1) && decide (p1 < (↑x0.length : Int)) then
                (bif decide ((x0.getD p1.toNat z_Pipe).ID < (1 : Int)) then some true
                    else
                      bif decide ((x0.getD p1.toNat z_Pipe).ID > (9999 : Int)) then some true
                      else
                        bif decide ((x0.getD p1.toNat z_Pipe).To < (1 : Int)) then some true
                        else some (decide ((x0.getD p1.toNat z_Pipe).To > (9999 : Int)))).bind
                  fun (r2 : Bool) =>
                  bif r2 then some (Sum.inr (Sum.inr (2 : Int)))
                  else
                    (bif decide ((x0.getD p1.toNat z_Pipe).Loss < (0 : Int)) then some true
                        else
                          bif decide ((x0.getD p1.toNat z_Pipe).Loss > (100000 : Int)) then some true
                          else
                            bif decide ((x0.getD p1.toNat z_Pipe).Rise < (-100000 : Int)) then some true
                            else some (decide ((x0.getD p1.toNat z_Pipe).Rise > (100000 : Int)))).bind
                      fun (r3 : Bool) =>
                      bif r3 then some (Sum.inr (Sum.inr (2 : Int)))
                      else
                        bif decide ((0 : Int) ≤ p1) && decide (p1 ≤ (↑x0.length : Int)) then
                          (whileF N
                                (fun (p4 : Int) =>
                                  bif decide (p4 < (↑(List.take p1.toNat x0).length : Int)) then
                                    bif
                                        decide ((0 : Int) ≤ p4) &&
                                          decide (p4 < (↑(List.take p1.toNat x0).length : Int)) then
                                      (bif
                                              ((List.take p1.toNat x0).getD p4.toNat z_Pipe).ID ==
                                                (x0.getD p1.toNat z_Pipe).ID then
                                            some true
                                          else
                                            some
                                              (((List.take p1.toNat x0).getD p4.toNat z_Pipe).To ==
                                                (x0.getD p1.toNat z_Pipe).To)).bind
                                        fun (r5 : Bool) =>
                                        bif r5 then some (Sum.inr (Sum.inr p4))
                                        else some (Sum.inl (IntKind.i64.wrap (p4 + (1 : Int))))
                                    else none
                                  else some (Sum.inr (Sum.inl ())))
                                (0 : Int)).bind
                            fun (r6 : Unit ⊕ Int) =>
                            Sum.elim
                              (fun (p7 : Unit) =>
                                (bif (x0.getD p1.toNat z_Pipe).From != (0 : Int) then
                                      bif decide ((0 : Int) ≤ p1) && decide (p1 ≤ (↑x0.length : Int)) then
                                        (pipe_find N (List.take p1.toNat x0) (x0.getD p1.toNat z_Pipe).From).bind
                                          fun (r8 : Int) => some (decide (r8 < (0 : Int)))
                                      else none
                                    else some false).bind
                                  fun (r9 : Bool) =>
                                  bif r9 then some (Sum.inr (Sum.inr (8 : Int)))
                                  else some (Sum.inl (IntKind.i64.wrap (p1 + (1 : Int)))))
                              (fun (p10 : Int) =>
                                bif decide (p10 ≥ (0 : Int)) then some (Sum.inr (Sum.inr (7 : Int)))
                                else
                                  (bif (x0.getD p1.toNat z_Pipe).From != (0 : Int) then
                                        bif decide ((0 : Int) ≤ p1) && decide (p1 ≤ (↑x0.length : Int)) then
                                          (pipe_find N (List.take p1.toNat x0) (x0.getD p1.toNat z_Pipe).From).bind
                                            fun (r11 : Int) => some (decide (r11 < (0 : Int)))
                                        else none
                                      else some false).bind
                                    fun (r12 : Bool) =>
                                    bif r12 then some (Sum.inr (Sum.inr (8 : Int)))
                                    else some (Sum.inl (IntKind.i64.wrap (p1 + (1 : Int)))))
                              r6
                        else none
              else none
            else some (Sum.inr (Sum.inl ())))
          (0 : Int)).bind
      fun (r13 : Unit ⊕ Int) => Sum.elim (fun (p14 : Unit) => some (0 : Int)) (fun (p15 : Int) => some p15) r13
theorem d_pipe_Right (N : Nat) : DenF Tryz.prog 26 ⟨[.l_Pipe], [.t_i64], [[none]], pipe_Right N⟩ :=
  den_of (N := N) (gam := [(71, ⟨[.l_Pipe, .t_i64], [.t_i64], [[none]], pipe_find N⟩)]) (txt := [(70, Tryz.f70), (31, Tryz.f31), (76, Tryz.f76)]) (hints := [(26, [([0, 1, 0, 1, 1], ⟨[0, 8, 9], [.reg 10 .t_i64 [none]], [(.ex 0, []), (.ret, [.reg 2 .t_i64 [none]])], []⟩), ([0, 0, 1, 0, 0, 1, 1, 0, 0, 1, 0, 1, 1], ⟨[0, 3, 4, 8, 9, 10], [], [(.nrm, [.reg 32 .t_bool [none]])], []⟩), ([0, 0, 1, 1, 0, 0, 1, 1, 0, 0, 1, 0, 1, 1], ⟨[0, 3, 4, 8, 9, 10], [], [(.nrm, [.reg 50 .t_bool [none]])], []⟩), ([0, 1, 1, 1, 1, 0, 0, 1, 1, 0, 0, 1, 0, 1, 1], ⟨[0, 8, 9, 10], [], [(.nrm, [.reg 67 .t_bool [none]])], []⟩)]), (70, [([0, 1], ⟨[], [], [(.nrm, [.reg 3 .t_bool [none]])], []⟩)]), (76, [([0, 1, 0, 1], ⟨[0, 1, 7], [.reg 8 .t_i64 [none]], [(.ex 0, []), (.ret, [.reg 4 .t_i64 [none]])], []⟩)])]) mixed (.cons (d_pipe_find N) .nil) (.cons Tryz.func70 (.cons Tryz.func31 (.cons Tryz.func76 .nil))) Tryz.func26 (by kernel_rfl) (by kernel_rfl)

def gun_falling (N : Nat) (x0 : List Point) : Option Bool :=
 
  (fixed_At N x0 (0 : Int)).bind fun (r1 : Int × Int) =>
    bif r1.snd != (0 : Int) then some false
    else
      (whileF N
            (fun (p2 : Int) =>
              bif decide (p2 < (↑x0.length : Int)) then
                bif decide ((0 : Int) ≤ p2) && decide (p2 < (↑x0.length : Int)) then
                  (bif decide ((x0.getD p2.toNat z_Point).Y < (0 : Int)) then some true
                      else
                        bif decide ((x0.getD p2.toNat z_Point).Y > (10000 : Int)) then some true
                        else
                          bif decide (p2 > (0 : Int)) then
                            bif
                                decide ((0 : Int) ≤ IntKind.i64.wrap (p2 - (1 : Int))) &&
                                  decide (IntKind.i64.wrap (p2 - (1 : Int)) < (↑x0.length : Int)) then
                              some
                                (decide
                                  ((x0.getD p2.toNat z_Point).Y >
                                    (x0.getD (IntKind.i64.wrap (p2 - (1 : Int))).toNat z_Point).Y))
                            else none
                          else some false).bind
                    fun (r3 : Bool) =>
                    bif r3 then some (Sum.inr (Sum.inr false)) else some (Sum.inl (IntKind.i64.wrap (p2 + (1 : Int))))
                else none
              else some (Sum.inr (Sum.inl ())))
            (0 : Int)).bind
        fun (r4 : Unit ⊕ Bool) => Sum.elim (fun (p5 : Unit) => some true) (fun (p6 : Bool) => some p6) r4
theorem d_gun_falling (N : Nat) : DenF Tryz.prog 72 ⟨[.l_Point], [.t_bool], [[none]], gun_falling N⟩ :=
  den_of (N := N) (gam := [(113, ⟨[.l_Point, .t_i64], [.t_i64, .t_i64], [[none], [none]], fixed_At N⟩)]) (txt := []) (hints := [(72, [([0, 1, 0, 1, 1], ⟨[0, 14, 15], [.reg 16 .t_i64 [none]], [(.ex 0, []), (.ret, [.reg 2 .t_bool [none]])], []⟩), ([0, 1, 0, 0, 1, 1, 0, 0, 1, 0, 1, 1], ⟨[0, 14, 15, 16], [], [(.nrm, [.reg 43 .t_bool [none]])], []⟩)])]) mixed (.cons (d_fixed_At N) .nil) .nil Tryz.func72 (by kernel_rfl) (by kernel_rfl)

def gun_inRange (N : Nat) (x0 : Gun) : Option Bool :=
 
  (whileF N
        (fun (p1 : Int) =>
          bif decide (p1 < (3 : Int)) then
            bif decide ((0 : Int) ≤ p1) && decide (p1 < (3 : Int)) then
              (bif decide ([x0.ID, x0.Node, x0.Run].getD p1.toNat (0 : Int) < (1 : Int)) then some true
                  else some (decide ([x0.ID, x0.Node, x0.Run].getD p1.toNat (0 : Int) > (9999 : Int)))).bind
                fun (r2 : Bool) =>
                bif r2 then some (Sum.inr (Sum.inr false)) else some (Sum.inl (IntKind.i64.wrap (p1 + (1 : Int))))
            else none
          else some (Sum.inr (Sum.inl ())))
        (0 : Int)).bind
    fun (r3 : Unit ⊕ Bool) =>
    Sum.elim
      (fun (p4 : Unit) =>
        (whileF N
              (fun (p5 : Int) =>
                bif decide (p5 < (2 : Int)) then
                  bif decide ((0 : Int) ≤ p5) && decide (p5 < (2 : Int)) then
                    (bif decide ([x0.On, x0.Off].getD p5.toNat (0 : Int) < (0 : Int)) then some true
                        else some (decide ([x0.On, x0.Off].getD p5.toNat (0 : Int) > (86400 : Int)))).bind
                      fun (r6 : Bool) =>
                      bif r6 then some (Sum.inr (Sum.inr false)) else some (Sum.inl (IntKind.i64.wrap (p5 + (1 : Int))))
                  else none
                else some (Sum.inr (Sum.inl ())))
              (0 : Int)).bind
          fun (r7 : Unit ⊕ Bool) =>
          Sum.elim
            (fun (p8 : Unit) =>
              (bif decide (x0.State ≥ (0 : Int)) then
                    bif decide (x0.State ≤ (2 : Int)) then
                      bif decide (x0.Since ≥ (0 : Int)) then some (decide (x0.Since ≤ (20000000 : Int))) else some false
                    else some false
                  else some false).bind
                fun (r9 : Bool) => some r9)
            (fun (p10 : Bool) => some p10) r7)
      (fun (p11 : Bool) => some p11) r3
theorem d_gun_inRange (N : Nat) : DenF Tryz.prog 73 ⟨[.t_Gun], [.t_bool], [[none]], gun_inRange N⟩ :=
  den_of (N := N) (gam := []) (txt := []) (hints := [(73, [([0, 1, 0, 1], ⟨[1, 13], [.reg 14 .t_i64 [none]], [(.ex 0, []), (.ret, [.reg 2 .t_bool [none]])], []⟩), ([0, 1, 0, 0, 1, 1, 0, 0, 1, 0, 1], ⟨[1, 13, 14], [], [(.nrm, [.reg 22 .t_bool [none]])], []⟩), ([0, 1, 0, 1, 1], ⟨[1, 28], [.reg 29 .t_i64 [none]], [(.ex 2, []), (.ret, [.reg 2 .t_bool [none]])], []⟩), ([0, 1, 0, 0, 1, 1, 0, 0, 1, 0, 1, 1], ⟨[1, 28, 29], [], [(.nrm, [.reg 37 .t_bool [none]])], []⟩), ([0, 1, 1, 1], ⟨[], [], [(.nrm, [.reg 2 .t_bool [none]])], []⟩)])]) mixed .nil .nil Tryz.func73 (by kernel_rfl) (by kernel_rfl)

def gun_Right (N : Nat) (x0 : List GunKind) (x1 : List Gun) : Option Int :=
 
  (bif decide ((↑x0.length : Int) > (64 : Int)) then some true
      else some (decide ((↑x1.length : Int) > (64 : Int)))).bind
    fun (r2 : Bool) =>
    bif r2 then some (4 : Int)
    else
      (whileF N
            (fun (p3 : Int × (Int → Option Bool)) =>
              bif decide (p3.fst < (↑x0.length : Int)) then
                bif decide ((0 : Int) ≤ p3.fst) && decide (p3.fst < (↑x0.length : Int)) then
                  (bif decide ((x0.getD (Int.toNat p3.fst) z_GunKind).ID < (1 : Int)) then some true
                      else
                        bif decide ((x0.getD (Int.toNat p3.fst) z_GunKind).ID > (9999 : Int)) then some true
                        else
                          bif decide ((x0.getD (Int.toNat p3.fst) z_GunKind).Power < (0 : Int)) then some true
                          else
                            bif decide ((x0.getD (Int.toNat p3.fst) z_GunKind).Power > (1000000 : Int)) then some true
                            else
                              bif decide ((x0.getD (Int.toNat p3.fst) z_GunKind).Pressure < (0 : Int)) then some true
                              else
                                some (decide ((x0.getD (Int.toNat p3.fst) z_GunKind).Pressure > (1000000 : Int)))).bind
                    fun (r4 : Bool) =>
                    bif r4 then some (Sum.inr (Sum.inr ((2 : Int), p3.snd)))
                    else
                      bif (p3.snd (x0.getD (Int.toNat p3.fst) z_GunKind).ID).getD false then
                        some (Sum.inr (Sum.inr ((7 : Int), p3.snd)))
                      else
                        (gun_falling N (x0.getD (Int.toNat p3.fst) z_GunKind).Output).bind fun (r5 : Bool) =>
                          bif !r5 then
                            some
                              (Sum.inr
                                (Sum.inr
                                  ((1 : Int), fun (u : Int) =>
                                    bif u == (x0.getD (Int.toNat p3.fst) z_GunKind).ID then some true else p3.snd u)))
                          else
                            some
                              (Sum.inl
                                (IntKind.i64.wrap (p3.fst + (1 : Int)), fun (u : Int) =>
                                  bif u == (x0.getD (Int.toNat p3.fst) z_GunKind).ID then some true else p3.snd u))
                else none
              else some (Sum.inr (Sum.inl p3.snd)))
            ((0 : Int), fun (x : Int) => none)).bind
        fun (r6 : (Int → Option Bool) ⊕ Int × (Int → Option Bool)) =>
        Sum.elim
          (fun (p7 : Int → Option Bool) =>
            (whileF N
                  (fun (p8 : Int × (Int → Option Bool)) =>
                    bif decide (p8.fst < (↑x1.length : Int)) then
                      bif decide ((0 : Int) ≤ p8.fst) && decide (p8.fst < (↑x1.length : Int)) then
                        (gun_inRange N (x1.getD (Int.toNat p8.fst) z_Gun)).bind fun (r9 : Bool) =>
                          bif !r9 then some (Sum.inr (Sum.inr ((2 : Int), p8.snd)))
                          else
                            bif (p8.snd (x1.getD (Int.toNat p8.fst) z_Gun).ID).getD false then
                              some (Sum.inr (Sum.inr ((7 : Int), p8.snd)))
                            else
                              bif !(p7 (x1.getD (Int.toNat p8.fst) z_Gun).Kind).getD false then
                                some
                                  (Sum.inr
                                    (Sum.inr
                                      ((8 : Int), fun (u : Int) =>
                                        bif u == (x1.getD (Int.toNat p8.fst) z_Gun).ID then some true else p8.snd u)))
                              else
                                some
                                  (Sum.inl
                                    (IntKind.i64.wrap (p8.fst + (1 : Int)), fun (u : Int) =>
                                      bif u == (x1.getD (Int.toNat p8.fst) z_Gun).ID then some true else p8.snd u))
                      else none
                    else some (Sum.inr (Sum.inl p8.snd)))
                  ((0 : Int), fun (x : Int) => none)).bind
              fun (r10 : (Int → Option Bool) ⊕ Int × (Int → Option Bool)) =>
              Sum.elim (fun (p11 : Int → Option Bool) => some (0 : Int))
                (fun (p12 : Int × (Int → Option Bool)) => some p12.fst) r10)
          (fun (p13 : Int × (Int → Option Bool)) => some p13.fst) r6
theorem d_gun_Right (N : Nat) : DenF Tryz.prog 27 ⟨[.l_GunKind, .l_Gun], [.t_i64], [[none]], gun_Right N⟩ :=
  den_of (N := N) (gam := [(72, ⟨[.l_Point], [.t_bool], [[none]], gun_falling N⟩), (73, ⟨[.t_Gun], [.t_bool], [[none]], gun_inRange N⟩)]) (txt := []) (hints := [(27, [([0, 0, 1], ⟨[0, 1], [], [(.nrm, [.reg 18 .t_bool [none]])], []⟩), ([0, 1, 0, 1, 1, 1], ⟨[1, 5, 20, 21], [.reg 22 .t_i64 [none], .mapr 5 .t_bool], [(.ex 0, [.mapr 5 .t_bool]), (.ret, [.reg 4 .t_i64 [none], .mapr 5 .t_bool])], []⟩), ([0, 0, 1, 0, 0, 1, 1, 0, 0, 1, 0, 1, 1, 1], ⟨[1, 5, 7, 20, 21, 22], [], [(.nrm, [.reg 53 .t_bool [none]])], []⟩), ([0, 1, 0, 1, 1, 1, 1, 1], ⟨[5, 8, 67, 68], [.reg 69 .t_i64 [none], .mapr 8 .t_bool], [(.ex 2, [.mapr 8 .t_bool]), (.ret, [.reg 4 .t_i64 [none], .mapr 8 .t_bool])], []⟩)])]) mixed (.cons (d_gun_falling N) (.cons (d_gun_inRange N) .nil)) .nil Tryz.func27 (by kernel_rfl) (by kernel_rfl)

def snowpack_within (N : Nat) (x0 x1 x2 : Int) : Option Bool :=
 
  (bif decide (x1 ≤ x0) then some (decide (x0 ≤ x2)) else some false).bind fun (r3 : Bool) => some r3
theorem d_snowpack_within (N : Nat) : DenF Tryz.prog 74 ⟨[.t_i64, .t_i64, .t_i64], [.t_bool], [[none]], snowpack_within N⟩ :=
  den_of (N := N) (gam := []) (txt := []) (hints := [(74, [([0, 1], ⟨[], [], [(.nrm, [.reg 6 .t_bool [none]])], []⟩)])]) mixed .nil .nil Tryz.func74 (by kernel_rfl) (by kernel_rfl)
end Go.Proofs.YtkhkblihdabnoaaGreat
