/- Written by a program (gen.py, asm.py): what each function computes, as a plain function, and that its text computes it. No condition. -/
import Derived.Test.YtkhkblihdabnoaaGreatFn7
import Derived.Test.YtkhkblihdabnoaaGreatCmo
namespace Go.Proofs.YtkhkblihdabnoaaGreat
open Go.Cm Go.Proofs
set_option linter.unusedVariables false
set_option maxRecDepth 100000

def r40_Flows (N : Nat) (x0 : List Pipe) (x1 : List Draw) : Option ((List Int)) :=
 
  bif
      true &&
        (decide ((↑x0.length : Int) ≤ (↑x0.length : Int)) &&
          decide ((↑x0.length : Int) * (8 : Int) ≤ (140737488355328 : Int))) then
    (some (List.replicate (↑x0.length : Int).toNat (0 : Int))).bind fun (r2 : List Int) =>
      (whileF N
            (fun (p3 : Int × List Int) =>
              bif decide (p3.fst < (↑x1.length : Int)) then
                bif decide ((0 : Int) ≤ p3.fst) && decide (p3.fst < (↑x1.length : Int)) then
                  (r40_way N x0 (x1.getD (Int.toNat p3.fst) z_Draw).Node).bind fun (r4 : List Int × Bool) =>
                    (whileF N
                          (fun (p5 : Int × List Int) =>
                            (bif decide (p5.fst < (↑(List.length r4.fst) : Int)) then some r4.snd else some false).bind
                              fun (r6 : Bool) =>
                              bif r6 then
                                bif decide ((0 : Int) ≤ p5.fst) && decide (p5.fst < (↑(List.length r4.fst) : Int)) then
                                  bif
                                      decide ((0 : Int) ≤ p5.fst) &&
                                        decide (p5.fst < (↑(List.length r4.fst) : Int)) then
                                    bif
                                        decide ((0 : Int) ≤ List.getD r4.fst (Int.toNat p5.fst) (0 : Int)) &&
                                          decide
                                            (List.getD r4.fst (Int.toNat p5.fst) (0 : Int) <
                                              (↑(List.length p5.snd) : Int)) then
                                      bif decide ((0 : Int) ≤ p3.fst) && decide (p3.fst < (↑x1.length : Int)) then
                                        bif
                                            decide ((0 : Int) ≤ List.getD r4.fst (Int.toNat p5.fst) (0 : Int)) &&
                                              decide
                                                (List.getD r4.fst (Int.toNat p5.fst) (0 : Int) <
                                                  (↑(List.length p5.snd) : Int)) then
                                          (some
                                                (List.set p5.snd (List.getD r4.fst (Int.toNat p5.fst) (0 : Int)).toNat
                                                  (IntKind.i64.wrap
                                                    (List.getD p5.snd
                                                        (List.getD r4.fst (Int.toNat p5.fst) (0 : Int)).toNat
                                                        (0 : Int) +
                                                      (x1.getD (Int.toNat p3.fst) z_Draw).Flow)))).bind
                                            fun (r7 : List Int) =>
                                            some (Sum.inl (IntKind.i64.wrap (p5.fst + (1 : Int)), r7))
                                        else none
                                      else none
                                    else none
                                  else none
                                else none
                              else some (Sum.inr p5.snd))
                          ((0 : Int), p3.snd)).bind
                      fun (r8 : List Int) => some (Sum.inl (IntKind.i64.wrap (p3.fst + (1 : Int)), r8))
                else none
              else some (Sum.inr p3.snd))
            ((0 : Int), r2)).bind
        fun (r9 : List Int) => some r9
  else none
theorem d_r40_Flows (N : Nat) : DenF Tryz.prog 125 ⟨[.l_Pipe, .l_Draw], [.l_i64], [[some 3]], r40_Flows N⟩ :=
  den_of (N := N) (gam := [(124, ⟨[.l_Pipe, .t_i64], [.l_i64, .t_bool], [[none], [none]], r40_way N⟩)]) (txt := []) (hints := [(125, [([0, 1, 0, 1, 1], ⟨[0, 1, 5], [.reg 6 .t_i64 [none], .rowr 5 .l_i64], [(.ex 0, [.rowr 5 .l_i64])], []⟩), ([0, 1, 1, 0, 0, 1, 0, 0, 1, 0, 1, 1], ⟨[0, 1, 5, 6, 7, 8], [.reg 9 .t_i64 [none], .rowr 5 .l_i64], [(.ex 2, [.rowr 5 .l_i64])], []⟩), ([0, 0, 0, 0, 1, 1, 0, 0, 1, 0, 0, 1, 0, 1, 1], ⟨[0, 1, 5, 6, 7, 8, 9], [], [(.nrm, [.reg 35 .t_bool [none]])], []⟩)])]) mixed (.cons (d_r40_way N) .nil) .nil Tryz.func125 (by kernel_rfl) (by kernel_rfl)

def r40_Pressure (N : Nat) (x0 : List Pipe) (x1 : List Draw) (x2 x3 : Int) : Option (Int × Bool) :=
 
  (r40_way N x0 x3).bind fun (r4 : List Int × Bool) =>
    bif !r4.snd then some ((0 : Int), false)
    else
      (r40_Flows N x0 x1).bind fun (r5 : List Int) =>
        (whileF N
              (fun (p6 : Int × Int) =>
                bif decide (p6.snd < (↑(List.length r4.fst) : Int)) then
                  bif decide ((0 : Int) ≤ p6.snd) && decide (p6.snd < (↑(List.length r4.fst) : Int)) then
                    bif
                        decide ((0 : Int) ≤ List.getD r4.fst (Int.toNat p6.snd) (0 : Int)) &&
                          decide (List.getD r4.fst (Int.toNat p6.snd) (0 : Int) < (↑x0.length : Int)) then
                      bif decide ((0 : Int) ≤ p6.snd) && decide (p6.snd < (↑(List.length r4.fst) : Int)) then
                        bif
                            decide ((0 : Int) ≤ List.getD r4.fst (Int.toNat p6.snd) (0 : Int)) &&
                              decide (List.getD r4.fst (Int.toNat p6.snd) (0 : Int) < (↑x0.length : Int)) then
                          bif decide ((0 : Int) ≤ p6.snd) && decide (p6.snd < (↑(List.length r4.fst) : Int)) then
                            bif
                                decide ((0 : Int) ≤ List.getD r4.fst (Int.toNat p6.snd) (0 : Int)) &&
                                  decide (List.getD r4.fst (Int.toNat p6.snd) (0 : Int) < (↑r5.length : Int)) then
                              some
                                (Sum.inl
                                  (IntKind.i64.wrap
                                      (IntKind.i64.wrap
                                          (p6.fst -
                                            (x0.getD (List.getD r4.fst (Int.toNat p6.snd) (0 : Int)).toNat
                                                z_Pipe).Rise) -
                                        IntKind.i64.wrap
                                          ((IntKind.i64.wrap
                                                ((x0.getD (List.getD r4.fst (Int.toNat p6.snd) (0 : Int)).toNat
                                                      z_Pipe).Loss *
                                                  r5.getD (List.getD r4.fst (Int.toNat p6.snd) (0 : Int)).toNat
                                                    (0 : Int))).tdiv
                                            (1000 : Int))),
                                    IntKind.i64.wrap (p6.snd + (1 : Int))))
                            else none
                          else none
                        else none
                      else none
                    else none
                  else none
                else some (Sum.inr p6.fst))
              (x2, (0 : Int))).bind
          fun (r7 : Int) => some (r7, true)
theorem d_r40_Pressure (N : Nat) : DenF Tryz.prog 95 ⟨[.l_Pipe, .l_Draw, .t_i64, .t_i64], [.t_i64, .t_bool], [[none], [none]], r40_Pressure N⟩ :=
  den_of (N := N) (gam := [(124, ⟨[.l_Pipe, .t_i64], [.l_i64, .t_bool], [[none], [none]], r40_way N⟩), (125, ⟨[.l_Pipe, .l_Draw], [.l_i64], [[some 3]], r40_Flows N⟩)]) (txt := []) (hints := [(95, [([0, 1, 0, 1, 1, 1, 1, 1], ⟨[0, 10, 12], [.reg 13 .t_i64 [none], .reg 14 .t_i64 [none]], [(.ex 0, [.reg 13 .t_i64 [none]])], []⟩)])]) mixed (.cons (d_r40_way N) (.cons (d_r40_Flows N) .nil)) .nil Tryz.func95 (by kernel_rfl) (by kernel_rfl)

def r40_Low (N : Nat) (x0 : List Pipe) (x1 : List Draw) (x2 : Int) (x3 : List Draw) : Option ((List Int)) :=
 
  (whileF N
        (fun (p4 : List Int × Int) =>
          bif decide (p4.snd < (↑x3.length : Int)) then
            bif decide ((0 : Int) ≤ p4.snd) && decide (p4.snd < (↑x3.length : Int)) then
              (r40_Pressure N x0 x1 x2 (x3.getD (Int.toNat p4.snd) z_Draw).Node).bind fun (r5 : Int × Bool) =>
                (bif !r5.snd then some true
                    else
                      bif decide ((0 : Int) ≤ p4.snd) && decide (p4.snd < (↑x3.length : Int)) then
                        some (decide (r5.fst < (x3.getD (Int.toNat p4.snd) z_Draw).Flow))
                      else none).bind
                  fun (r6 : Bool) =>
                  (bif r6 then
                        bif decide ((0 : Int) ≤ p4.snd) && decide (p4.snd < (↑x3.length : Int)) then
                          (some [(x3.getD (Int.toNat p4.snd) z_Draw).Node]).bind fun (r7 : List Int) =>
                            bif decide ((List.length p4.fst + r7.length) * 8 ≤ 140737488355328) then
                              (some (p4.fst ++ r7)).bind fun (r8 : List Int) => some r8
                            else none
                        else none
                      else some p4.fst).bind
                    fun (r9 : List Int) => some (Sum.inl (r9, IntKind.i64.wrap (p4.snd + (1 : Int))))
            else none
          else some (Sum.inr p4.fst))
        ([], (0 : Int))).bind
    fun (r10 : List Int) => some r10
theorem d_r40_Low (N : Nat) : DenF Tryz.prog 48 ⟨[.l_Pipe, .l_Draw, .t_i64, .l_Draw], [.l_i64], [[some 3]], r40_Low N⟩ :=
  den_of (N := N) (gam := [(95, ⟨[.l_Pipe, .l_Draw, .t_i64, .t_i64], [.t_i64, .t_bool], [[none], [none]], r40_Pressure N⟩)]) (txt := []) (hints := [(48, [([0, 1, 0, 1, 1], ⟨[0, 1, 2, 3], [.reg 9 .l_i64 [some 3], .reg 10 .t_i64 [none]], [(.ex 0, [.reg 9 .l_i64 [some 3]])], []⟩), ([0, 1, 0, 0, 1, 0, 0, 1, 0, 1, 1], ⟨[0, 1, 2, 3, 9, 10], [], [(.nrm, [.reg 41 .t_bool [none]])], []⟩), ([1, 1, 0, 0, 1, 0, 0, 1, 0, 1, 1], ⟨[0, 1, 2, 3, 10], [], [(.nrm, [.reg 9 .l_i64 [some 3]])], []⟩)])]) mixed (.cons (d_r40_Pressure N) .nil) .nil Tryz.func48 (by kernel_rfl) (by kernel_rfl)

def r44_Why (N : Nat) (x0 : SnowSystem) (x1 : Int) : Option Int :=
 
  (r44_Power N x0 x1).bind fun (r2 : Int × Int) =>
    bif r2.snd != (0 : Int) then some r2.snd
    else
      bif decide (r2.fst > x0.Limit) then some (13 : Int)
      else
        (r42_Draws N x0.Kinds x0.Guns x1).bind fun (r3 : List Draw) =>
          (r42_Needs N x0.Kinds x0.Guns).bind fun (r4 : List Draw) =>
            (r40_Low N x0.Pipes r3 x0.Pressure r4).bind fun (r5 : List Int) =>
              bif decide ((↑r5.length : Int) > (0 : Int)) then some (5 : Int) else some (0 : Int)
theorem d_r44_Why (N : Nat) : DenF Tryz.prog 13 ⟨[.t_SnowSystem, .t_i64], [.t_i64], [[none]], r44_Why N⟩ :=
  den_of (N := N) (gam := [(11, ⟨[.t_SnowSystem, .t_i64], [.t_i64, .t_i64], [[none], [none]], r44_Power N⟩), (43, ⟨[.l_GunKind, .l_Gun, .t_i64], [.l_Draw], [[some 77]], r42_Draws N⟩), (49, ⟨[.l_GunKind, .l_Gun], [.l_Draw], [[some 77]], r42_Needs N⟩), (48, ⟨[.l_Pipe, .l_Draw, .t_i64, .l_Draw], [.l_i64], [[some 3]], r40_Low N⟩)]) (txt := []) (hints := []) mixed (.cons (d_r44_Power N) (.cons (d_r42_Draws N) (.cons (d_r42_Needs N) (.cons (d_r40_Low N) .nil)))) .nil Tryz.func13 (by kernel_rfl) (by kernel_rfl)

def l44_SnowmakingChecks (N : Nat) (x0 : SnowSystem) (x1 : Int) : Option Bool :=
 
  (l44_alive N).bind fun (r2 : Bool) =>
    bif !r2 then some false
    else
      (l44_small N x0).bind fun (r3 : Bool) =>
        bif !r3 then some true
        else
          (snowmaking_Right N x0).bind fun (r4 : Int) =>
            (r44_Right N x0).bind fun (r5 : Int) =>
              bif r4 != r5 then some false
              else
                (r44_Right N x0).bind fun (r6 : Int) =>
                  bif r6 != (0 : Int) then some true
                  else
                    (snowmaking_Power N x0 x1).bind fun (r7 : Int × Int) =>
                      (r44_Power N x0 x1).bind fun (r8 : Int × Int) =>
                        (bif r7.fst == r8.fst then
                              bif r7.snd == r8.snd then
                                (snowmaking_Why N x0 x1).bind fun (r9 : Int) =>
                                  (r44_Why N x0 x1).bind fun (r10 : Int) => some (r9 == r10)
                              else some false
                            else some false).bind
                          fun (r11 : Bool) => some r11
theorem d_l44_SnowmakingChecks (N : Nat) : DenF Tryz.prog 3 ⟨[.t_SnowSystem, .t_i64], [.t_bool], [[none]], l44_SnowmakingChecks N⟩ :=
  den_of (N := N) (gam := [(6, ⟨[], [.t_bool], [[none]], l44_alive N⟩), (7, ⟨[.t_SnowSystem], [.t_bool], [[none]], l44_small N⟩), (8, ⟨[.t_SnowSystem], [.t_i64], [[none]], snowmaking_Right N⟩), (9, ⟨[.t_SnowSystem], [.t_i64], [[none]], r44_Right N⟩), (10, ⟨[.t_SnowSystem, .t_i64], [.t_i64, .t_i64], [[none], [none]], snowmaking_Power N⟩), (11, ⟨[.t_SnowSystem, .t_i64], [.t_i64, .t_i64], [[none], [none]], r44_Power N⟩), (12, ⟨[.t_SnowSystem, .t_i64], [.t_i64], [[none]], snowmaking_Why N⟩), (13, ⟨[.t_SnowSystem, .t_i64], [.t_i64], [[none]], r44_Why N⟩)]) (txt := []) (hints := [(3, [([0, 1, 1, 1, 1, 1, 1, 1], ⟨[], [], [(.nrm, [.reg 4 .t_bool [none]])], []⟩)])]) mixed (.cons (d_l44_alive N) (.cons (d_l44_small N) (.cons (d_snowmaking_Right N) (.cons (d_r44_Right N) (.cons (d_snowmaking_Power N) (.cons (d_r44_Power N) (.cons (d_snowmaking_Why N) (.cons (d_r44_Why N) .nil)))))))) .nil Tryz.func3 (by kernel_rfl) (by kernel_rfl)

def l44_right (N : Nat) (x0 : SnowSystem) : Option Bool :=
 
  ((l44_small N x0).bind fun (r1 : Bool) =>
        bif r1 then (r44_Right N x0).bind fun (r2 : Int) => some (r2 == (0 : Int)) else some false).bind
    fun (r3 : Bool) => some r3
theorem d_l44_right (N : Nat) : DenF Tryz.prog 14 ⟨[.t_SnowSystem], [.t_bool], [[none]], l44_right N⟩ :=
  den_of (N := N) (gam := [(7, ⟨[.t_SnowSystem], [.t_bool], [[none]], l44_small N⟩), (9, ⟨[.t_SnowSystem], [.t_i64], [[none]], r44_Right N⟩)]) (txt := []) (hints := [(14, [([0, 1], ⟨[], [], [(.nrm, [.reg 2 .t_bool [none]])], []⟩)])]) mixed (.cons (d_l44_small N) (.cons (d_r44_Right N) .nil)) .nil Tryz.func14 (by kernel_rfl) (by kernel_rfl)

def l44_done (N : Nat) (x0 : SnowSystem) (x1 : Op) : Option (SnowSystem × Int) :=
 
  bif x1.Kind == (0 : Int) then (snowmaking_Step N x0 x1.Wet x1.N).bind fun (r2 : SnowSystem × Int) => some r2
  else (snowmaking_Switch N x0 x1.N (x1.Kind == (1 : Int)) x1.Wet).bind fun (r3 : SnowSystem × Int) => some r3
theorem d_l44_done (N : Nat) : DenF Tryz.prog 15 ⟨[.t_SnowSystem, .t_Op], [.t_SnowSystem, .t_i64], [[none, none, none, none, none, none, none, none, none, none, none, none, none], [none]], l44_done N⟩ :=
  den_of (N := N) (gam := [(23, ⟨[.t_SnowSystem, .t_i64, .t_i64], [.t_SnowSystem, .t_i64], [[none, none, none, none, none, none, none, none, none, none, none, none, none], [none]], snowmaking_Step N⟩), (22, ⟨[.t_SnowSystem, .t_i64, .t_bool, .t_i64], [.t_SnowSystem, .t_i64], [[some 49, some 95, some 68, some 56, some 63, some 53, none, none, none, none, none, none, none], [none]], snowmaking_Switch N⟩)]) (txt := []) (hints := []) mixed (.cons (d_snowmaking_Step N) (.cons (d_snowmaking_Switch N) .nil)) .nil Tryz.func15 (by kernel_rfl) (by kernel_rfl)

def r44_kind (N : Nat) (x0 : List GunKind) (x1 : Int) : Option GunKind :=
 
  (whileF N
        (fun (p2 : Int × GunKind) =>
          bif decide (p2.fst < (↑x0.length : Int)) then
            bif decide ((0 : Int) ≤ p2.fst) && decide (p2.fst < (↑x0.length : Int)) then
              bif (x0.getD (Int.toNat p2.fst) z_GunKind).ID == x1 then
                bif decide ((0 : Int) ≤ p2.fst) && decide (p2.fst < (↑x0.length : Int)) then
                  some (Sum.inr (Sum.inr (x0.getD (Int.toNat p2.fst) z_GunKind)))
                else none
              else some (Sum.inl (IntKind.i64.wrap (p2.fst + (1 : Int)), p2.snd))
            else none
          else some (Sum.inr (Sum.inl p2.snd)))
        ((0 : Int), z_GunKind)).bind
    fun (r3 : GunKind ⊕ GunKind) => Sum.elim (fun (p4 : GunKind) => some z_GunKind) (fun (p5 : GunKind) => some p5) r3
theorem d_r44_kind (N : Nat) : DenF Tryz.prog 96 ⟨[.l_GunKind, .t_i64], [.t_GunKind], [[none, none, none, none]], r44_kind N⟩ :=
  den_of (N := N) (gam := []) (txt := []) (hints := [(96, [([0, 1, 0, 1], ⟨[0, 1, 4], [.reg 5 .t_i64 [none], .var 4 .t_GunKind [none, none, none, none]], [(.ex 0, [.var 4 .t_GunKind [none, none, none, none]]), (.ret, [.var 4 .t_GunKind [none, none, none, none]])], []⟩)])]) mixed .nil .nil Tryz.func96 (by kernel_rfl) (by kernel_rfl)

def r44_water (N : Nat) (x0 : SnowSystem) (x1 : Gun) (x2 x3 : Int) : Option Int :=
 
  bif x1.State != (1 : Int) then some (0 : Int)
  else
    (r44_kind N x0.Kinds x1.Kind).bind fun (r4 : GunKind) =>
      (r42_Output N r4 x2).bind fun (r5 : Int) => some (IntKind.i64.wrap ((IntKind.i64.wrap (r5 * x3)).tdiv (60 : Int)))
theorem d_r44_water (N : Nat) : DenF Tryz.prog 50 ⟨[.t_SnowSystem, .t_Gun, .t_i64, .t_i64], [.t_i64], [[none]], r44_water N⟩ :=
  den_of (N := N) (gam := [(96, ⟨[.l_GunKind, .t_i64], [.t_GunKind], [[none, none, none, none]], r44_kind N⟩), (89, ⟨[.t_GunKind, .t_i64], [.t_i64], [[none]], r42_Output N⟩)]) (txt := []) (hints := []) mixed (.cons (d_r44_kind N) (.cons (d_r42_Output N) .nil)) .nil Tryz.func50 (by kernel_rfl) (by kernel_rfl)

def r39_Spare (N : Nat) (x0 : List Pond) : Option Int :=
 
  (whileF N
        (fun (p1 : Int × Int) =>
          bif decide (p1.snd < (↑x0.length : Int)) then
            bif decide ((0 : Int) ≤ p1.snd) && decide (p1.snd < (↑x0.length : Int)) then
              bif decide ((0 : Int) ≤ p1.snd) && decide (p1.snd < (↑x0.length : Int)) then
                some
                  (Sum.inl
                    (IntKind.i64.wrap
                        (IntKind.i64.wrap (p1.fst + (x0.getD (Int.toNat p1.snd) z_Pond).Volume) -
                          (x0.getD (Int.toNat p1.snd) z_Pond).Least),
                      IntKind.i64.wrap (p1.snd + (1 : Int))))
              else none
            else none
          else some (Sum.inr p1.fst))
        ((0 : Int), (0 : Int))).bind
    fun (r2 : Int) => some r2
theorem d_r39_Spare (N : Nat) : DenF Tryz.prog 97 ⟨[.l_Pond], [.t_i64], [[none]], r39_Spare N⟩ :=
  den_of (N := N) (gam := []) (txt := []) (hints := [(97, [([0, 1, 0, 1, 1], ⟨[0], [.reg 3 .t_i64 [none], .reg 4 .t_i64 [none]], [(.ex 0, [.reg 3 .t_i64 [none]])], []⟩)])]) mixed .nil .nil Tryz.func97 (by kernel_rfl) (by kernel_rfl)

def r34_sum (N : Nat) (x0 : List Int) : Option Int :=
 
  (whileF N
        (fun (p1 : Int × Int) =>
          bif decide (p1.snd < (↑x0.length : Int)) then
            bif decide ((0 : Int) ≤ p1.snd) && decide (p1.snd < (↑x0.length : Int)) then
              some
                (Sum.inl
                  (IntKind.i64.wrap (p1.fst + x0.getD (Int.toNat p1.snd) (0 : Int)),
                    IntKind.i64.wrap (p1.snd + (1 : Int))))
            else none
          else some (Sum.inr p1.fst))
        ((0 : Int), (0 : Int))).bind
    fun (r2 : Int) => some r2
theorem d_r34_sum (N : Nat) : DenF Tryz.prog 126 ⟨[.l_i64], [.t_i64], [[none]], r34_sum N⟩ :=
  den_of (N := N) (gam := []) (txt := []) (hints := [(126, [([0, 1, 0, 1, 1], ⟨[0], [.reg 3 .t_i64 [none], .reg 4 .t_i64 [none]], [(.ex 0, [.reg 3 .t_i64 [none]])], []⟩)])]) mixed .nil .nil Tryz.func126 (by kernel_rfl) (by kernel_rfl)

def r34_Quotient (N : Nat) (x0 x1 x2 : Int) : Option (Int × Int) :=
 
  (whileF N
        (fun (p3 : Int × Int × Int) =>
          bif decide (p3.snd.snd ≥ (0 : Int)) then
            bif decide ((0 : Int) ≤ p3.snd.snd) then
              (bif andI IntKind.i64 (shrI IntKind.i64 x1 p3.snd.snd) (1 : Int) == (1 : Int) then
                    bif x2 != (0 : Int) then
                      bif x2 != (0 : Int) then
                        some
                          (IntKind.i64.wrap (IntKind.i64.wrap ((2 : Int) * p3.fst) + IntKind.i64.wrap (x0.tdiv x2)),
                            IntKind.i64.wrap (IntKind.i64.wrap ((2 : Int) * p3.snd.fst) + x0.tmod x2))
                      else none
                    else none
                  else some (IntKind.i64.wrap ((2 : Int) * p3.fst), IntKind.i64.wrap ((2 : Int) * p3.snd.fst))).bind
                fun (r4 : Int × Int) =>
                bif x2 != (0 : Int) then
                  bif x2 != (0 : Int) then
                    some
                      (Sum.inl
                        (IntKind.i64.wrap (r4.fst + IntKind.i64.wrap (Int.tdiv r4.snd x2)), Int.tmod r4.snd x2,
                          IntKind.i64.wrap (p3.snd.snd - (1 : Int))))
                  else none
                else none
            else none
          else some (Sum.inr (p3.fst, p3.snd.fst)))
        ((0 : Int), (0 : Int), (30 : Int))).bind
    fun (r5 : Int × Int) => some r5
theorem d_r34_Quotient (N : Nat) : DenF Tryz.prog 127 ⟨[.t_i64, .t_i64, .t_i64], [.t_i64, .t_i64], [[none], [none]], r34_Quotient N⟩ :=
  den_of (N := N) (gam := []) (txt := []) (hints := [(127, [([0, 1, 0, 1, 1], ⟨[0, 1, 2], [.reg 8 .t_i64 [none], .reg 9 .t_i64 [none], .reg 10 .t_i64 [none]], [(.ex 0, [.reg 8 .t_i64 [none], .reg 9 .t_i64 [none]])], []⟩), ([1, 0, 1, 1, 0, 0, 1, 0, 0, 1, 0, 1, 1], ⟨[0, 1, 2, 10], [], [(.nrm, [.reg 8 .t_i64 [none], .reg 9 .t_i64 [none]])], []⟩)])]) mixed .nil .nil Tryz.func127 (by kernel_rfl) (by kernel_rfl)

def r34_Split (N : Nat) (x0 : Int) (x1 : List Int) : Option ((List Int) × Int) :=
 
  bif decide ((↑x1.length : Int) > (64 : Int)) then some ([], (4 : Int))
  else
    (bif decide (x0 < (0 : Int)) then some true else some (decide (x0 > (1099511627776 : Int)))).bind fun (r2 : Bool) =>
      bif r2 then some ([], (2 : Int))
      else
        (whileF N
              (fun (p3 : Int) =>
                bif decide (p3 < (↑x1.length : Int)) then
                  (bif decide ((0 : Int) ≤ p3) && decide (p3 < (↑x1.length : Int)) then
                        bif decide (x1.getD p3.toNat (0 : Int) < (0 : Int)) then some true
                        else
                          bif decide ((0 : Int) ≤ p3) && decide (p3 < (↑x1.length : Int)) then
                            some (decide (x1.getD p3.toNat (0 : Int) > (1000000000 : Int)))
                          else none
                      else none).bind
                    fun (r4 : Bool) =>
                    bif r4 then some (Sum.inr (Sum.inr ([], (2 : Int))))
                    else some (Sum.inl (IntKind.i64.wrap (p3 + (1 : Int))))
                else some (Sum.inr (Sum.inl ())))
              (0 : Int)).bind
          fun (r5 : Unit ⊕ List Int × Int) =>
          Sum.elim
            (fun (p6 : Unit) =>
              (r34_sum N x1).bind fun (r7 : Int) =>
                bif r7 == (0 : Int) then some ([], (1 : Int))
                else
                  (whileF N
                        (fun (p8 : List Int × List Int × Int) =>
                          bif decide (p8.snd.snd < (↑x1.length : Int)) then
                            bif decide ((0 : Int) ≤ p8.snd.snd) && decide (p8.snd.snd < (↑x1.length : Int)) then
                              (r34_Quotient N x0 (x1.getD (Int.toNat p8.snd.snd) (0 : Int)) r7).bind
                                fun (r9 : Int × Int) =>
                                (some [r9.fst]).bind fun (r10 : List Int) =>
                                  bif
                                      decide
                                        ((List.length p8.fst + r10.length) * 8 ≤ 140737488355328) then
                                    (some (p8.fst ++ r10)).bind fun (r11 : List Int) =>
                                      (some [r9.snd]).bind fun (r12 : List Int) =>
                                        bif
                                            decide
                                              ((List.length p8.snd.fst + r12.length) * 8 ≤
                                                140737488355328) then
                                          (some (p8.snd.fst ++ r12)).bind fun (r13 : List Int) =>
                                            some (Sum.inl (r11, r13, IntKind.i64.wrap (p8.snd.snd + (1 : Int))))
                                        else none
                                  else none
                            else none
                          else some (Sum.inr (p8.fst, p8.snd.fst)))
                        ([], [], (0 : Int))).bind
                    fun (r14 : List Int × List Int) =>
                    (whileF N
                          (fun (p15 : List Int × List Int) =>
                            (r34_sum N p15.fst).bind fun (r16 : Int) =>
                              bif decide (r16 < x0) then
                                (whileF N
                                      (fun (p17 : Int × Int) =>
                                        bif decide (p17.snd < (↑(List.length p15.snd) : Int)) then
                                          bif
                                              decide ((0 : Int) ≤ p17.snd) &&
                                                decide (p17.snd < (↑(List.length p15.snd) : Int)) then
                                            bif
                                                decide ((0 : Int) ≤ p17.fst) &&
                                                  decide (p17.fst < (↑(List.length p15.snd) : Int)) then
                                              (bif
                                                      decide
                                                        (List.getD p15.snd (Int.toNat p17.snd) (0 : Int) >
                                                          List.getD p15.snd (Int.toNat p17.fst) (0 : Int)) then
                                                    some p17.snd
                                                  else some p17.fst).bind
                                                fun (r18 : Int) =>
                                                some (Sum.inl (r18, IntKind.i64.wrap (p17.snd + (1 : Int))))
                                            else none
                                          else none
                                        else some (Sum.inr p17.fst))
                                      ((0 : Int), (1 : Int))).bind
                                  fun (r19 : Int) =>
                                  bif decide ((0 : Int) ≤ r19) && decide (r19 < (↑(List.length p15.fst) : Int)) then
                                    bif decide ((0 : Int) ≤ r19) && decide (r19 < (↑(List.length p15.fst) : Int)) then
                                      (some
                                            (List.set p15.fst r19.toNat
                                              (IntKind.i64.wrap
                                                (List.getD p15.fst r19.toNat (0 : Int) + (1 : Int))))).bind
                                        fun (r20 : List Int) =>
                                        bif
                                            decide ((0 : Int) ≤ r19) &&
                                              decide (r19 < (↑(List.length p15.snd) : Int)) then
                                          (some (List.set p15.snd r19.toNat (-1 : Int))).bind fun (r21 : List Int) =>
                                            some (Sum.inl (r20, r21))
                                        else none
                                    else none
                                  else none
                              else some (Sum.inr p15))
                          r14).bind
                      fun (r22 : List Int × List Int) => some (r22.fst, (0 : Int)))
            (fun (p23 : List Int × Int) => some p23) r5
theorem d_r34_Split (N : Nat) : DenF Tryz.prog 98 ⟨[.t_i64, .l_i64], [.l_i64, .t_i64], [[some 3], [none]], r34_Split N⟩ :=
  den_of (N := N) (gam := [(126, ⟨[.l_i64], [.t_i64], [[none]], r34_sum N⟩), (127, ⟨[.t_i64, .t_i64, .t_i64], [.t_i64, .t_i64], [[none], [none]], r34_Quotient N⟩)]) (txt := []) (hints := [(98, [([0, 0, 1, 1], ⟨[0, 1], [], [(.nrm, [.reg 23 .t_bool [none]])], []⟩), ([0, 1, 0, 1, 1, 1], ⟨[0, 1], [.reg 6 .t_i64 [none]], [(.ex 0, []), (.ret, [.reg 4 .l_i64 [some 3], .reg 5 .t_i64 [none]])], []⟩), ([0, 0, 0, 1, 0, 0, 1, 0, 1, 1, 1], ⟨[0, 1, 6], [], [(.nrm, [.reg 41 .t_bool [none]])], []⟩), ([0, 1, 0, 1, 1, 1, 1, 1, 1, 1], ⟨[0, 1, 7], [.reg 8 .l_i64 [some 3], .reg 9 .l_i64 [some 3], .reg 10 .t_i64 [none]], [(.ex 2, [.reg 8 .l_i64 [some 3], .reg 9 .l_i64 [some 3]])], []⟩), ([0, 0, 1, 1, 1, 1, 1, 1, 1, 1], ⟨[0, 8, 9], [.rowr 8 .l_i64, .rowr 9 .l_i64], [(.ex 4, [.rowr 8 .l_i64, .rowr 9 .l_i64])], []⟩), ([0, 1, 0, 1, 0, 1, 0, 0, 0, 1, 1, 1, 1, 1, 1, 1, 1], ⟨[0, 8, 9], [.reg 13 .t_i64 [none], .reg 14 .t_i64 [none]], [(.ex 6, [.reg 13 .t_i64 [none]])], []⟩), ([1, 0, 0, 1, 0, 0, 1, 0, 1, 0, 1, 0, 0, 0, 1, 1, 1, 1, 1, 1, 1, 1], ⟨[0, 8, 9, 14], [], [(.nrm, [.reg 13 .t_i64 [none]])], []⟩)])]) mixed (.cons (d_r34_sum N) (.cons (d_r34_Quotient N) .nil)) .nil Tryz.func98 (by kernel_rfl) (by kernel_rfl)

def r39_Take (N : Nat) (x0 : List Pond) (x1 : Int) : Option ((List Pond) × Int) :=
 
  bif decide (x1 < (0 : Int)) then some ([], (2 : Int))
  else
    (r39_Spare N x0).bind fun (r2 : Int) =>
      bif decide (x1 > r2) then some ([], (9 : Int))
      else
        (whileF N
              (fun (p3 : List Int × Int) =>
                bif decide (p3.snd < (↑x0.length : Int)) then
                  bif decide ((0 : Int) ≤ p3.snd) && decide (p3.snd < (↑x0.length : Int)) then
                    bif decide ((0 : Int) ≤ p3.snd) && decide (p3.snd < (↑x0.length : Int)) then
                      (some
                            [IntKind.i64.wrap
                                ((x0.getD (Int.toNat p3.snd) z_Pond).Volume -
                                  (x0.getD (Int.toNat p3.snd) z_Pond).Least)]).bind
                        fun (r4 : List Int) =>
                        bif decide ((List.length p3.fst + r4.length) * 8 ≤ 140737488355328) then
                          (some (p3.fst ++ r4)).bind fun (r5 : List Int) =>
                            some (Sum.inl (r5, IntKind.i64.wrap (p3.snd + (1 : Int))))
                        else none
                    else none
                  else none
                else some (Sum.inr p3.fst))
              ([], (0 : Int))).bind
          fun (r6 : List Int) =>
          bif
              true &&
                (decide ((↑x0.length : Int) ≤ (↑x0.length : Int)) &&
                  decide ((↑x0.length : Int) * (8 : Int) ≤ (140737488355328 : Int))) then
            (some (List.replicate (↑x0.length : Int).toNat (0 : Int))).bind fun (r7 : List Int) =>
              (bif decide (x1 > (0 : Int)) then (r34_Split N x1 r6).bind fun (r8 : List Int × Int) => some r8.fst
                  else some r7).bind
                fun (r9 : List Int) =>
                (whileF N
                      (fun (p10 : List Pond × Int) =>
                        bif decide (p10.snd < (↑x0.length : Int)) then
                          bif decide ((0 : Int) ≤ p10.snd) && decide (p10.snd < (↑x0.length : Int)) then
                            bif decide ((0 : Int) ≤ p10.snd) && decide (p10.snd < (↑r9.length : Int)) then
                              (some
                                    [Pond.mk (x0.getD (Int.toNat p10.snd) z_Pond).ID
                                        (IntKind.i64.wrap
                                          ((x0.getD (Int.toNat p10.snd) z_Pond).Volume -
                                            r9.getD (Int.toNat p10.snd) (0 : Int)))
                                        (x0.getD (Int.toNat p10.snd) z_Pond).Least
                                        (x0.getD (Int.toNat p10.snd) z_Pond).Most
                                        (x0.getD (Int.toNat p10.snd) z_Pond).Inflow]).bind
                                fun (r11 : List Pond) =>
                                bif
                                    decide
                                      ((List.length p10.fst + r11.length) * 40 ≤ 140737488355328) then
                                  (some (p10.fst ++ r11)).bind fun (r12 : List Pond) =>
                                    some (Sum.inl (r12, IntKind.i64.wrap (p10.snd + (1 : Int))))
                                else none
                            else none
                          else none
                        else some (Sum.inr p10.fst))
                      ([], (0 : Int))).bind
                  fun (r13 : List Pond) => some (r13, (0 : Int))
          else none
theorem d_r39_Take (N : Nat) : DenF Tryz.prog 51 ⟨[.l_Pond, .t_i64], [.l_Pond, .t_i64], [[some 49], [none]], r39_Take N⟩ :=
  den_of (N := N) (gam := [(97, ⟨[.l_Pond], [.t_i64], [[none]], r39_Spare N⟩), (98, ⟨[.t_i64, .l_i64], [.l_i64, .t_i64], [[some 3], [none]], r34_Split N⟩)]) (txt := []) (hints := [(51, [([0, 1, 0, 1, 1, 1, 1], ⟨[0, 1], [.reg 6 .l_i64 [some 3], .reg 7 .t_i64 [none]], [(.ex 0, [.reg 6 .l_i64 [some 3]])], []⟩), ([1, 0, 1, 1, 1, 1, 1, 1], ⟨[0], [], [(.nrm, [.reg 8 .l_i64 [none]])], [6]⟩), ([0, 1, 0, 1, 1, 1, 1, 1, 1, 1, 1], ⟨[0, 8], [.reg 9 .l_Pond [some 49], .reg 10 .t_i64 [none]], [(.ex 2, [.reg 9 .l_Pond [some 49]])], []⟩)])]) mixed (.cons (d_r39_Spare N) (.cons (d_r34_Split N) .nil)) .nil Tryz.func51 (by kernel_rfl) (by kernel_rfl)
end Go.Proofs.YtkhkblihdabnoaaGreat
