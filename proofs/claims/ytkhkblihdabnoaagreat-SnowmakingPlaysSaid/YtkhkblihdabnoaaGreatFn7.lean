/- Written by a program (gen.py, asm.py): what each function computes, as a plain function, and that its text computes it. No condition. -/
import Derived.Test.YtkhkblihdabnoaaGreatFn6
import Derived.Test.YtkhkblihdabnoaaGreatCmo
namespace Go.Proofs.YtkhkblihdabnoaaGreat
open Go.Cm Go.Proofs
set_option linter.unusedVariables false
set_option maxRecDepth 100000

def r44_within (N : Nat) (x0 x1 : Int) : Option Bool :=
 
  (bif decide (x0 ≥ (0 : Int)) then some (decide (x0 ≤ x1)) else some false).bind fun (r2 : Bool) => some r2
theorem d_r44_within (N : Nat) : DenF Tryz.prog 39 ⟨[.t_i64, .t_i64], [.t_bool], [[none]], r44_within N⟩ :=
  den_of (N := N) (gam := []) (txt := []) (hints := [(39, [([0, 1], ⟨[], [], [(.nrm, [.reg 4 .t_bool [none]])], []⟩)])]) mixed .nil .nil Tryz.func39 (by kernel_rfl) (by kernel_rfl)

def r44_Right (N : Nat) (x0 : SnowSystem) : Option Int :=
 
  (r44_parts N x0).bind fun (r1 : Int) =>
    bif r1 != (0 : Int) then some r1
    else
      bif decide ((↑x0.Packs.length : Int) > (64 : Int)) then some (4 : Int)
      else
        (r44_Packs N x0.Packs).bind fun (r2 : Int) =>
          bif r2 != (0 : Int) then some r2
          else
            (whileF N
                  (fun (p3 : Int) =>
                    bif decide (p3 < (↑x0.Guns.length : Int)) then
                      (bif decide ((0 : Int) ≤ p3) && decide (p3 < (↑x0.Guns.length : Int)) then
                            (r44_pack N x0.Packs (x0.Guns.getD p3.toNat z_Gun).Run).bind fun (r4 : Bool) =>
                              bif !r4 then some true
                              else
                                bif decide ((0 : Int) ≤ p3) && decide (p3 < (↑x0.Guns.length : Int)) then
                                  (r44_node N x0.Pipes (x0.Guns.getD p3.toNat z_Gun).Node).bind fun (r5 : Bool) =>
                                    some !r5
                                else none
                          else none).bind
                        fun (r6 : Bool) =>
                        bif r6 then some (Sum.inr (Sum.inr (8 : Int)))
                        else some (Sum.inl (IntKind.i64.wrap (p3 + (1 : Int))))
                    else some (Sum.inr (Sum.inl ())))
                  (0 : Int)).bind
              fun (r7 : Unit ⊕ Int) =>
              Sum.elim
                (fun (p8 : Unit) =>
                  ((r44_within N x0.Pressure (10000000 : Int)).bind fun (r9 : Bool) =>
                        bif !r9 then some true
                        else
                          (r44_within N x0.Limit (1000000000 : Int)).bind fun (r10 : Bool) =>
                            bif !r10 then some true
                            else
                              (r44_within N x0.Time (20000000 : Int)).bind fun (r11 : Bool) =>
                                bif !r11 then some true
                                else
                                  (r44_within N x0.Water (1125899906842624 : Int)).bind fun (r12 : Bool) =>
                                    bif !r12 then some true
                                    else
                                      (r44_within N x0.Lost (1125899906842624 : Int)).bind fun (r13 : Bool) =>
                                        bif !r13 then some true
                                        else
                                          (r44_within N x0.Energy (1125899906842624 : Int)).bind fun (r14 : Bool) =>
                                            bif !r14 then some true
                                            else
                                              (r44_within N x0.Inflow (1125899906842624 : Int)).bind fun (r15 : Bool) =>
                                                some !r15).bind
                    fun (r16 : Bool) => bif r16 then some (2 : Int) else some (0 : Int))
                (fun (p17 : Int) => some p17) r7
theorem d_r44_Right (N : Nat) : DenF Tryz.prog 9 ⟨[.t_SnowSystem], [.t_i64], [[none]], r44_Right N⟩ :=
  den_of (N := N) (gam := [(35, ⟨[.t_SnowSystem], [.t_i64], [[none]], r44_parts N⟩), (36, ⟨[.l_RunPack], [.t_i64], [[none]], r44_Packs N⟩), (37, ⟨[.l_RunPack, .t_i64], [.t_bool], [[none]], r44_pack N⟩), (38, ⟨[.l_Pipe, .t_i64], [.t_bool], [[none]], r44_node N⟩), (39, ⟨[.t_i64, .t_i64], [.t_bool], [[none]], r44_within N⟩)]) (txt := []) (hints := [(9, [([0, 1, 0, 1, 1, 1, 1], ⟨[1], [.reg 5 .t_i64 [none]], [(.ex 0, []), (.ret, [.reg 2 .t_i64 [none]])], []⟩), ([0, 0, 0, 1, 0, 0, 1, 0, 1, 1, 1, 1], ⟨[1, 5], [], [(.nrm, [.reg 49 .t_bool [none]])], []⟩), ([0, 0, 1, 1, 1, 1, 1], ⟨[], [], [(.nrm, [.reg 89 .t_bool [none]])], []⟩)])]) mixed (.cons (d_r44_parts N) (.cons (d_r44_Packs N) (.cons (d_r44_pack N) (.cons (d_r44_node N) (.cons (d_r44_within N) .nil))))) .nil Tryz.func9 (by kernel_rfl) (by kernel_rfl)

def r42_Output (N : Nat) (x0 : GunKind) (x1 : Int) : Option Int :=
  (r01_At N x0.Output x1).bind fun (r2 : Int × Int) => some r2.fst
theorem d_r42_Output (N : Nat) : DenF Tryz.prog 89 ⟨[.t_GunKind, .t_i64], [.t_i64], [[none]], r42_Output N⟩ :=
  den_of (N := N) (gam := [(120, ⟨[.l_Point, .t_i64], [.t_i64, .t_i64], [[none], [none]], r01_At N⟩)]) (txt := []) (hints := []) mixed (.cons (d_r01_At N) .nil) .nil Tryz.func89 (by kernel_rfl) (by kernel_rfl)

def r42_Draws (N : Nat) (x0 : List GunKind) (x1 : List Gun) (x2 : Int) : Option ((List Draw)) :=
 
  (whileF N
        (fun (p3 : List Draw × Int) =>
          bif decide (p3.snd < (↑x1.length : Int)) then
            bif decide ((0 : Int) ≤ p3.snd) && decide (p3.snd < (↑x1.length : Int)) then
              (bif (x1.getD (Int.toNat p3.snd) z_Gun).State == (1 : Int) then
                    bif decide ((0 : Int) ≤ p3.snd) && decide (p3.snd < (↑x1.length : Int)) then
                      (r42_find N x0 (x1.getD (Int.toNat p3.snd) z_Gun).Kind).bind fun (r4 : GunKind × Bool) =>
                        bif decide ((0 : Int) ≤ p3.snd) && decide (p3.snd < (↑x1.length : Int)) then
                          (r42_Output N r4.fst x2).bind fun (r5 : Int) =>
                            (some [Draw.mk (x1.getD (Int.toNat p3.snd) z_Gun).Node r5]).bind fun (r6 : List Draw) =>
                              bif decide ((List.length p3.fst + r6.length) * 16 ≤ 140737488355328) then
                                (some (p3.fst ++ r6)).bind fun (r7 : List Draw) => some r7
                              else none
                        else none
                    else none
                  else some p3.fst).bind
                fun (r8 : List Draw) => some (Sum.inl (r8, IntKind.i64.wrap (p3.snd + (1 : Int))))
            else none
          else some (Sum.inr p3.fst))
        ([], (0 : Int))).bind
    fun (r9 : List Draw) => some r9
theorem d_r42_Draws (N : Nat) : DenF Tryz.prog 43 ⟨[.l_GunKind, .l_Gun, .t_i64], [.l_Draw], [[some 77]], r42_Draws N⟩ :=
  den_of (N := N) (gam := [(88, ⟨[.l_GunKind, .t_i64], [.t_GunKind, .t_bool], [[none, none, none, none], [none]], r42_find N⟩), (89, ⟨[.t_GunKind, .t_i64], [.t_i64], [[none]], r42_Output N⟩)]) (txt := []) (hints := [(43, [([0, 1, 0, 1, 1], ⟨[0, 1, 2], [.reg 7 .l_Draw [some 77], .reg 8 .t_i64 [none]], [(.ex 0, [.reg 7 .l_Draw [some 77]])], []⟩), ([1, 0, 0, 1, 0, 0, 1, 0, 1, 1], ⟨[0, 1, 2, 8], [], [(.nrm, [.reg 7 .l_Draw [some 77]])], []⟩)])]) mixed (.cons (d_r42_find N) (.cons (d_r42_Output N) .nil)) .nil Tryz.func43 (by kernel_rfl) (by kernel_rfl)

def r41_subset (N : Nat) (x0 : Int) : Option ((List Int)) :=
 
  (whileF N
        (fun (p1 : Int × List Int × Int) =>
          bif decide (p1.fst > (0 : Int)) then
            (bif Int.tmod p1.fst (2 : Int) == (1 : Int) then
                  (some [p1.snd.snd]).bind fun (r2 : List Int) =>
                    bif decide ((List.length p1.snd.fst + r2.length) * 8 ≤ 140737488355328) then
                      (some (p1.snd.fst ++ r2)).bind fun (r3 : List Int) => some r3
                    else none
                else some p1.snd.fst).bind
              fun (r4 : List Int) =>
              some
                (Sum.inl (IntKind.i64.wrap (Int.tdiv p1.fst (2 : Int)), r4, IntKind.i64.wrap (p1.snd.snd + (1 : Int))))
          else some (Sum.inr p1.snd.fst))
        (x0, [], (0 : Int))).bind
    fun (r5 : List Int) => some r5
theorem d_r41_subset (N : Nat) : DenF Tryz.prog 90 ⟨[.t_i64], [.l_i64], [[some 3]], r41_subset N⟩ :=
  den_of (N := N) (gam := []) (txt := []) (hints := [(90, [([0, 1, 0, 1, 1], ⟨[], [.reg 0 .t_i64 [none], .reg 3 .l_i64 [some 3], .reg 4 .t_i64 [none]], [(.ex 0, [.reg 3 .l_i64 [some 3]])], []⟩), ([1, 0, 0, 0, 1, 0, 0, 1, 0, 1, 1], ⟨[0, 4], [], [(.nrm, [.reg 3 .l_i64 [some 3]])], []⟩)])]) mixed .nil .nil Tryz.func90 (by kernel_rfl) (by kernel_rfl)

def r41_has (N : Nat) (x0 : List Int) (x1 : Int) : Option Bool :=
 
  (whileF N
        (fun (p2 : Int) =>
          bif decide (p2 < (↑x0.length : Int)) then
            bif decide ((0 : Int) ≤ p2) && decide (p2 < (↑x0.length : Int)) then
              bif x0.getD p2.toNat (0 : Int) == x1 then some (Sum.inr (Sum.inr true))
              else some (Sum.inl (IntKind.i64.wrap (p2 + (1 : Int))))
            else none
          else some (Sum.inr (Sum.inl ())))
        (0 : Int)).bind
    fun (r3 : Unit ⊕ Bool) => Sum.elim (fun (p4 : Unit) => some false) (fun (p5 : Bool) => some p5) r3
theorem d_r41_has (N : Nat) : DenF Tryz.prog 121 ⟨[.l_i64, .t_i64], [.t_bool], [[none]], r41_has N⟩ :=
  den_of (N := N) (gam := []) (txt := []) (hints := [(121, [([0, 1, 0, 1], ⟨[0, 1], [.reg 5 .t_i64 [none]], [(.ex 0, []), (.ret, [.reg 4 .t_bool [none]])], []⟩)])]) mixed .nil .nil Tryz.func121 (by kernel_rfl) (by kernel_rfl)

def r41_Flow (N : Nat) (x0 : List Pump) (x1 : List Int) : Option Int :=
 
  (whileF N
        (fun (p2 : Int × Int) =>
          bif decide (p2.snd < (↑x0.length : Int)) then
            (r41_has N x1 p2.snd).bind fun (r3 : Bool) =>
              (bif r3 then
                    bif decide ((0 : Int) ≤ p2.snd) && decide (p2.snd < (↑x0.length : Int)) then
                      some (IntKind.i64.wrap (p2.fst + (x0.getD (Int.toNat p2.snd) z_Pump).Flow))
                    else none
                  else some p2.fst).bind
                fun (r4 : Int) => some (Sum.inl (r4, IntKind.i64.wrap (p2.snd + (1 : Int))))
          else some (Sum.inr p2.fst))
        ((0 : Int), (0 : Int))).bind
    fun (r5 : Int) => some r5
theorem d_r41_Flow (N : Nat) : DenF Tryz.prog 91 ⟨[.l_Pump, .l_i64], [.t_i64], [[none]], r41_Flow N⟩ :=
  den_of (N := N) (gam := [(121, ⟨[.l_i64, .t_i64], [.t_bool], [[none]], r41_has N⟩)]) (txt := []) (hints := [(91, [([0, 1, 0, 1, 1], ⟨[0, 1], [.reg 5 .t_i64 [none], .reg 6 .t_i64 [none]], [(.ex 0, [.reg 5 .t_i64 [none]])], []⟩), ([1, 0, 0, 1, 0, 0, 1, 0, 1, 1], ⟨[0, 1, 6], [], [(.nrm, [.reg 5 .t_i64 [none]])], []⟩)])]) mixed (.cons (d_r41_has N) .nil) .nil Tryz.func91 (by kernel_rfl) (by kernel_rfl)

def r41_Power (N : Nat) (x0 : List Pump) (x1 : List Int) : Option Int :=
 
  (whileF N
        (fun (p2 : Int × Int) =>
          bif decide (p2.snd < (↑x0.length : Int)) then
            (r41_has N x1 p2.snd).bind fun (r3 : Bool) =>
              (bif r3 then
                    bif decide ((0 : Int) ≤ p2.snd) && decide (p2.snd < (↑x0.length : Int)) then
                      some (IntKind.i64.wrap (p2.fst + (x0.getD (Int.toNat p2.snd) z_Pump).Power))
                    else none
                  else some p2.fst).bind
                fun (r4 : Int) => some (Sum.inl (r4, IntKind.i64.wrap (p2.snd + (1 : Int))))
          else some (Sum.inr p2.fst))
        ((0 : Int), (0 : Int))).bind
    fun (r5 : Int) => some r5
theorem d_r41_Power (N : Nat) : DenF Tryz.prog 92 ⟨[.l_Pump, .l_i64], [.t_i64], [[none]], r41_Power N⟩ :=
  den_of (N := N) (gam := [(121, ⟨[.l_i64, .t_i64], [.t_bool], [[none]], r41_has N⟩)]) (txt := []) (hints := [(92, [([0, 1, 0, 1, 1], ⟨[0, 1], [.reg 5 .t_i64 [none], .reg 6 .t_i64 [none]], [(.ex 0, [.reg 5 .t_i64 [none]])], []⟩), ([1, 0, 0, 1, 0, 0, 1, 0, 1, 1], ⟨[0, 1, 6], [], [(.nrm, [.reg 5 .t_i64 [none]])], []⟩)])]) mixed (.cons (d_r41_has N) .nil) .nil Tryz.func92 (by kernel_rfl) (by kernel_rfl)

def r41_Less (N : Nat) (x0 x1 : List Int) : Option Bool :=
 
  (whileF N
        (fun (p2 : Int) =>
          (bif decide (p2 < (↑x0.length : Int)) then some (decide (p2 < (↑x1.length : Int))) else some false).bind
            fun (r3 : Bool) =>
            bif r3 then
              bif decide ((0 : Int) ≤ p2) && decide (p2 < (↑x0.length : Int)) then
                bif decide ((0 : Int) ≤ p2) && decide (p2 < (↑x1.length : Int)) then
                  bif x0.getD p2.toNat (0 : Int) != x1.getD p2.toNat (0 : Int) then
                    bif decide ((0 : Int) ≤ p2) && decide (p2 < (↑x0.length : Int)) then
                      bif decide ((0 : Int) ≤ p2) && decide (p2 < (↑x1.length : Int)) then
                        some (Sum.inr (Sum.inr (decide (x0.getD p2.toNat (0 : Int) < x1.getD p2.toNat (0 : Int)))))
                      else none
                    else none
                  else some (Sum.inl (IntKind.i64.wrap (p2 + (1 : Int))))
                else none
              else none
            else some (Sum.inr (Sum.inl ())))
        (0 : Int)).bind
    fun (r4 : Unit ⊕ Bool) =>
    Sum.elim (fun (p5 : Unit) => some (decide ((↑x0.length : Int) < (↑x1.length : Int)))) (fun (p6 : Bool) => some p6)
      r4
theorem d_r41_Less (N : Nat) : DenF Tryz.prog 93 ⟨[.l_i64, .l_i64], [.t_bool], [[none]], r41_Less N⟩ :=
  den_of (N := N) (gam := []) (txt := []) (hints := [(93, [([0, 1, 0, 1], ⟨[0, 1], [.reg 5 .t_i64 [none]], [(.ex 0, []), (.ret, [.reg 4 .t_bool [none]])], []⟩), ([0, 0, 0, 0, 1, 0, 1], ⟨[0, 1, 5], [], [(.nrm, [.reg 15 .t_bool [none]])], []⟩)])]) mixed .nil .nil Tryz.func93 (by kernel_rfl) (by kernel_rfl)

def r41_Best (N : Nat) (x0 : List Pump) (x1 : Int) : Option ((List Int) × Int × Int) :=
 
  bif decide (x1 < (0 : Int)) then some ([], (0 : Int), (2 : Int))
  else
    (whileF N
          (fun (p2 : Int × Int) =>
            bif decide (p2.snd < (↑x0.length : Int)) then
              some (Sum.inl (IntKind.i64.wrap ((2 : Int) * p2.fst), IntKind.i64.wrap (p2.snd + (1 : Int))))
            else some (Sum.inr p2.fst))
          ((1 : Int), (0 : Int))).bind
      fun (r3 : Int) =>
      (whileF N
            (fun (p4 : List Int × Int × Bool × Int) =>
              bif decide (p4.snd.snd.snd < r3) then
                ((r41_subset N p4.snd.snd.snd).bind fun (r5 : List Int) =>
                      (r41_Flow N x0 r5).bind fun (r6 : Int) =>
                        bif decide (r6 < x1) then some (p4.fst, p4.snd.fst, p4.snd.snd.fst)
                        else
                          (r41_Power N x0 r5).bind fun (r7 : Int) =>
                            (bif !p4.snd.snd.fst then some true
                                else
                                  bif decide (r7 < p4.snd.fst) then some true
                                  else
                                    bif r7 == p4.snd.fst then (r41_Less N r5 p4.fst).bind fun (r8 : Bool) => some r8
                                    else some false).bind
                              fun (r9 : Bool) =>
                              (bif r9 then some (r5, r7, true) else some (p4.fst, p4.snd.fst, p4.snd.snd.fst)).bind
                                fun (r10 : List Int × Int × Bool) => some r10).bind
                  fun (r11 : List Int × Int × Bool) =>
                  some (Sum.inl (r11.fst, r11.snd.fst, r11.snd.snd, IntKind.i64.wrap (p4.snd.snd.snd + (1 : Int))))
              else some (Sum.inr (p4.fst, p4.snd.fst, p4.snd.snd.fst)))
            ([], (0 : Int), false, (0 : Int))).bind
        fun (r12 : List Int × Int × Bool) =>
        bif !r12.snd.snd then some ([], (0 : Int), (9 : Int)) else some (r12.fst, r12.snd.fst, (0 : Int))
theorem d_r41_Best (N : Nat) : DenF Tryz.prog 44 ⟨[.l_Pump, .t_i64], [.l_i64, .t_i64, .t_i64], [[none], [none], [none]], r41_Best N⟩ :=
  den_of (N := N) (gam := [(90, ⟨[.t_i64], [.l_i64], [[some 3]], r41_subset N⟩), (91, ⟨[.l_Pump, .l_i64], [.t_i64], [[none]], r41_Flow N⟩), (92, ⟨[.l_Pump, .l_i64], [.t_i64], [[none]], r41_Power N⟩), (93, ⟨[.l_i64, .l_i64], [.t_bool], [[none]], r41_Less N⟩)]) (txt := []) (hints := [(44, [([0, 1, 0, 1, 1, 1], ⟨[0, 1], [.reg 7 .t_i64 [none], .reg 8 .t_i64 [none]], [(.ex 0, [.reg 7 .t_i64 [none]])], []⟩), ([0, 1, 0, 1, 1, 1, 1, 1, 1], ⟨[0, 1, 7], [.reg 9 .l_i64 [none], .reg 10 .t_i64 [none], .reg 11 .t_bool [none], .reg 12 .t_i64 [none]], [(.ex 2, [.reg 9 .l_i64 [none], .reg 10 .t_i64 [none], .reg 11 .t_bool [none]])], []⟩), ([0, 1, 0, 0, 1, 0, 1, 1, 1, 1, 1, 1], ⟨[0, 1, 7, 12], [], [(.nrm, [.reg 9 .l_i64 [none], .reg 10 .t_i64 [none], .reg 11 .t_bool [none]])], []⟩), ([0, 1, 1, 1, 0, 0, 1, 0, 0, 1, 0, 1, 1, 1, 1, 1, 1], ⟨[0, 1, 7, 9, 10, 11, 12, 13, 14], [], [(.nrm, [.reg 56 .t_bool [none]])], []⟩), ([1, 1, 1, 1, 0, 0, 1, 0, 0, 1, 0, 1, 1, 1, 1, 1, 1], ⟨[0, 1, 7, 12], [], [(.nrm, [.reg 9 .l_i64 [none], .reg 10 .t_i64 [none], .reg 11 .t_bool [none]])], [13]⟩)])]) mixed (.cons (d_r41_subset N) (.cons (d_r41_Flow N) (.cons (d_r41_Power N) (.cons (d_r41_Less N) .nil)))) .nil Tryz.func44 (by kernel_rfl) (by kernel_rfl)

def r42_Power (N : Nat) (x0 : List GunKind) (x1 : List Gun) : Option Int :=
 
  (whileF N
        (fun (p2 : Int × Int) =>
          bif decide (p2.snd < (↑x1.length : Int)) then
            bif decide ((0 : Int) ≤ p2.snd) && decide (p2.snd < (↑x1.length : Int)) then
              (bif (x1.getD (Int.toNat p2.snd) z_Gun).State == (1 : Int) then
                    bif decide ((0 : Int) ≤ p2.snd) && decide (p2.snd < (↑x1.length : Int)) then
                      (r42_find N x0 (x1.getD (Int.toNat p2.snd) z_Gun).Kind).bind fun (r3 : GunKind × Bool) =>
                        some (IntKind.i64.wrap (p2.fst + r3.fst.Power))
                    else none
                  else some p2.fst).bind
                fun (r4 : Int) => some (Sum.inl (r4, IntKind.i64.wrap (p2.snd + (1 : Int))))
            else none
          else some (Sum.inr p2.fst))
        ((0 : Int), (0 : Int))).bind
    fun (r5 : Int) => some r5
theorem d_r42_Power (N : Nat) : DenF Tryz.prog 45 ⟨[.l_GunKind, .l_Gun], [.t_i64], [[none]], r42_Power N⟩ :=
  den_of (N := N) (gam := [(88, ⟨[.l_GunKind, .t_i64], [.t_GunKind, .t_bool], [[none, none, none, none], [none]], r42_find N⟩)]) (txt := []) (hints := [(45, [([0, 1, 0, 1, 1], ⟨[0, 1], [.reg 5 .t_i64 [none], .reg 6 .t_i64 [none]], [(.ex 0, [.reg 5 .t_i64 [none]])], []⟩), ([1, 0, 0, 1, 0, 0, 1, 0, 1, 1], ⟨[0, 1, 6], [], [(.nrm, [.reg 5 .t_i64 [none]])], []⟩)])]) mixed (.cons (d_r42_find N) .nil) .nil Tryz.func45 (by kernel_rfl) (by kernel_rfl)

def r44_Power (N : Nat) (x0 : SnowSystem) (x1 : Int) : Option (Int × Int) :=
 
  (r42_Draws N x0.Kinds x0.Guns x1).bind fun (r2 : List Draw) =>
    (whileF N
          (fun (p3 : Int × Int) =>
            bif decide (p3.snd < (↑r2.length : Int)) then
              bif decide ((0 : Int) ≤ p3.snd) && decide (p3.snd < (↑r2.length : Int)) then
                some
                  (Sum.inl
                    (IntKind.i64.wrap (p3.fst + (r2.getD (Int.toNat p3.snd) z_Draw).Flow),
                      IntKind.i64.wrap (p3.snd + (1 : Int))))
              else none
            else some (Sum.inr p3.fst))
          ((0 : Int), (0 : Int))).bind
      fun (r4 : Int) =>
      (r41_Best N x0.Pumps r4).bind fun (r5 : List Int × Int × Int) =>
        bif r5.snd.snd != (0 : Int) then some ((0 : Int), r5.snd.snd)
        else (r42_Power N x0.Kinds x0.Guns).bind fun (r6 : Int) => some (IntKind.i64.wrap (r5.snd.fst + r6), (0 : Int))
theorem d_r44_Power (N : Nat) : DenF Tryz.prog 11 ⟨[.t_SnowSystem, .t_i64], [.t_i64, .t_i64], [[none], [none]], r44_Power N⟩ :=
  den_of (N := N) (gam := [(43, ⟨[.l_GunKind, .l_Gun, .t_i64], [.l_Draw], [[some 77]], r42_Draws N⟩), (44, ⟨[.l_Pump, .t_i64], [.l_i64, .t_i64, .t_i64], [[none], [none], [none]], r41_Best N⟩), (45, ⟨[.l_GunKind, .l_Gun], [.t_i64], [[none]], r42_Power N⟩)]) (txt := []) (hints := [(11, [([0, 1, 0, 1, 1, 1], ⟨[2, 6], [.reg 7 .t_i64 [none], .reg 8 .t_i64 [none]], [(.ex 0, [.reg 7 .t_i64 [none]])], []⟩)])]) mixed (.cons (d_r42_Draws N) (.cons (d_r41_Best N) (.cons (d_r42_Power N) .nil))) .nil Tryz.func11 (by kernel_rfl) (by kernel_rfl)

def r42_Needs (N : Nat) (x0 : List GunKind) (x1 : List Gun) : Option ((List Draw)) :=
 
  (whileF N
        (fun (p2 : List Draw × Int) =>
          bif decide (p2.snd < (↑x1.length : Int)) then
            bif decide ((0 : Int) ≤ p2.snd) && decide (p2.snd < (↑x1.length : Int)) then
              (bif (x1.getD (Int.toNat p2.snd) z_Gun).State == (1 : Int) then
                    bif decide ((0 : Int) ≤ p2.snd) && decide (p2.snd < (↑x1.length : Int)) then
                      (r42_find N x0 (x1.getD (Int.toNat p2.snd) z_Gun).Kind).bind fun (r3 : GunKind × Bool) =>
                        bif decide ((0 : Int) ≤ p2.snd) && decide (p2.snd < (↑x1.length : Int)) then
                          (some [Draw.mk (x1.getD (Int.toNat p2.snd) z_Gun).Node r3.fst.Pressure]).bind
                            fun (r4 : List Draw) =>
                            bif decide ((List.length p2.fst + r4.length) * 16 ≤ 140737488355328) then
                              (some (p2.fst ++ r4)).bind fun (r5 : List Draw) => some r5
                            else none
                        else none
                    else none
                  else some p2.fst).bind
                fun (r6 : List Draw) => some (Sum.inl (r6, IntKind.i64.wrap (p2.snd + (1 : Int))))
            else none
          else some (Sum.inr p2.fst))
        ([], (0 : Int))).bind
    fun (r7 : List Draw) => some r7
theorem d_r42_Needs (N : Nat) : DenF Tryz.prog 49 ⟨[.l_GunKind, .l_Gun], [.l_Draw], [[some 77]], r42_Needs N⟩ :=
  den_of (N := N) (gam := [(88, ⟨[.l_GunKind, .t_i64], [.t_GunKind, .t_bool], [[none, none, none, none], [none]], r42_find N⟩)]) (txt := []) (hints := [(49, [([0, 1, 0, 1, 1], ⟨[0, 1], [.reg 5 .l_Draw [some 77], .reg 6 .t_i64 [none]], [(.ex 0, [.reg 5 .l_Draw [some 77]])], []⟩), ([1, 0, 0, 1, 0, 0, 1, 0, 1, 1], ⟨[0, 1, 6], [], [(.nrm, [.reg 5 .l_Draw [some 77]])], []⟩)])]) mixed (.cons (d_r42_find N) .nil) .nil Tryz.func49 (by kernel_rfl) (by kernel_rfl)

def r40_way (N : Nat) (x0 : List Pipe) (x1 : Int) : Option ((List Int) × Bool) :=
 
  (whileF N
        (fun (p2 : Int × List Int × Int) =>
          bif decide (p2.snd.snd ≥ (0 : Int)) then
            bif decide ((0 : Int) ≤ p2.snd.snd) && decide (p2.snd.snd < (↑x0.length : Int)) then
              (bif (x0.getD (Int.toNat p2.snd.snd) z_Pipe).To == p2.fst then
                    (some [p2.snd.snd]).bind fun (r3 : List Int) =>
                      bif decide ((r3.length + List.length p2.snd.fst) * 8 ≤ 140737488355328) then
                        (some (r3 ++ p2.snd.fst)).bind fun (r4 : List Int) =>
                          bif decide ((0 : Int) ≤ p2.snd.snd) && decide (p2.snd.snd < (↑x0.length : Int)) then
                            some ((x0.getD (Int.toNat p2.snd.snd) z_Pipe).From, r4)
                          else none
                      else none
                  else some (p2.fst, p2.snd.fst)).bind
                fun (r5 : Int × List Int) => some (Sum.inl (r5.fst, r5.snd, IntKind.i64.wrap (p2.snd.snd - (1 : Int))))
            else none
          else some (Sum.inr (p2.fst, p2.snd.fst)))
        (x1, [], IntKind.i64.wrap ((↑x0.length : Int) - (1 : Int)))).bind
    fun (r6 : Int × List Int) => some (r6.snd, r6.fst == (0 : Int))
theorem d_r40_way (N : Nat) : DenF Tryz.prog 124 ⟨[.l_Pipe, .t_i64], [.l_i64, .t_bool], [[none], [none]], r40_way N⟩ :=
  den_of (N := N) (gam := []) (txt := []) (hints := [(124, [([0, 1, 0, 1, 1], ⟨[0], [.reg 1 .t_i64 [none], .reg 6 .l_i64 [none], .reg 7 .t_i64 [none]], [(.ex 0, [.reg 1 .t_i64 [none], .reg 6 .l_i64 [none]])], []⟩), ([1, 0, 0, 1, 0, 0, 1, 0, 1, 1], ⟨[0, 7], [], [(.nrm, [.reg 1 .t_i64 [none], .reg 6 .l_i64 [none]])], []⟩)])]) mixed .nil .nil Tryz.func124 (by kernel_rfl) (by kernel_rfl)
end Go.Proofs.YtkhkblihdabnoaaGreat
