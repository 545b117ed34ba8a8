/- Written by a program (gen.py, asm.py): what each function computes, as a plain function, and that its text computes it. No condition. -/
import Derived.Test.YtkhkblihdabnoaaGreatFn1
import Derived.Test.YtkhkblihdabnoaaGreatCmo
namespace Go.Proofs.YtkhkblihdabnoaaGreat
open Go.Cm Go.Proofs
set_option linter.unusedVariables false
set_option maxRecDepth 100000

def fixed_floorDiv (N : Nat) (x0 x1 : Int) : Option Int :=
 
  bif x1 != (0 : Int) then
    bif x1 != (0 : Int) then
      (bif decide (x0.tmod x1 < (0 : Int)) then some (IntKind.i64.wrap (IntKind.i64.wrap (x0.tdiv x1) - (1 : Int)))
          else some (IntKind.i64.wrap (x0.tdiv x1))).bind
        fun (r2 : Int) => some r2
    else none
  else none
theorem d_fixed_floorDiv (N : Nat) : DenF Tryz.prog 139 ⟨[.t_i64, .t_i64], [.t_i64], [[none]], fixed_floorDiv N⟩ :=
  den_of (N := N) (gam := []) (txt := []) (hints := [(139, [([1, 0, 1, 1], ⟨[], [], [(.nrm, [.reg 5 .t_i64 [none]])], []⟩)])]) mixed .nil .nil Tryz.func139 (by kernel_rfl) (by kernel_rfl)

def fixed_At (N : Nat) (x0 : List Point) (x1 : Int) : Option (Int × Int) :=
 
  (fixed_right N x0).bind fun (r2 : Bool) =>
    bif !r2 then some ((0 : Int), (1 : Int))
    else
      bif true && decide ((0 : Int) < (↑x0.length : Int)) then
        bif
            decide ((0 : Int) ≤ IntKind.i64.wrap ((↑x0.length : Int) - (1 : Int))) &&
              decide (IntKind.i64.wrap ((↑x0.length : Int) - (1 : Int)) < (↑x0.length : Int)) then
          bif decide (x1 ≤ (x0.getD 0 z_Point).X) then some ((x0.getD 0 z_Point).Y, (0 : Int))
          else
            bif decide (x1 ≥ (x0.getD (IntKind.i64.wrap ((↑x0.length : Int) - (1 : Int))).toNat z_Point).X) then
              some ((x0.getD (IntKind.i64.wrap ((↑x0.length : Int) - (1 : Int))).toNat z_Point).Y, (0 : Int))
            else
              (whileF N
                    (fun (p3 : Int) =>
                      bif
                          decide ((0 : Int) ≤ IntKind.i64.wrap (p3 + (1 : Int))) &&
                            decide (IntKind.i64.wrap (p3 + (1 : Int)) < (↑x0.length : Int)) then
                        bif decide ((x0.getD (IntKind.i64.wrap (p3 + (1 : Int))).toNat z_Point).X ≤ x1) then
                          some (Sum.inl (IntKind.i64.wrap (p3 + (1 : Int))))
                        else some (Sum.inr p3)
                      else none)
                    (0 : Int)).bind
                fun (r4 : Int) =>
                bif decide ((0 : Int) ≤ r4) && decide (r4 < (↑x0.length : Int)) then
                  bif
                      decide ((0 : Int) ≤ IntKind.i64.wrap (r4 + (1 : Int))) &&
                        decide (IntKind.i64.wrap (r4 + (1 : Int)) < (↑x0.length : Int)) then
                    (fixed_floorDiv N
                          (IntKind.i64.wrap
                            (IntKind.i64.wrap
                                ((x0.getD (IntKind.i64.wrap (r4 + (1 : Int))).toNat z_Point).Y -
                                  (x0.getD r4.toNat z_Point).Y) *
                              IntKind.i64.wrap (x1 - (x0.getD r4.toNat z_Point).X)))
                          (IntKind.i64.wrap
                            ((x0.getD (IntKind.i64.wrap (r4 + (1 : Int))).toNat z_Point).X -
                              (x0.getD r4.toNat z_Point).X))).bind
                      fun (r5 : Int) => some (IntKind.i64.wrap ((x0.getD r4.toNat z_Point).Y + r5), (0 : Int))
                  else none
                else none
        else none
      else none
theorem d_fixed_At (N : Nat) : DenF Tryz.prog 113 ⟨[.l_Point, .t_i64], [.t_i64, .t_i64], [[none], [none]], fixed_At N⟩ :=
  den_of (N := N) (gam := [(138, ⟨[.l_Point], [.t_bool], [[none]], fixed_right N⟩), (139, ⟨[.t_i64, .t_i64], [.t_i64], [[none]], fixed_floorDiv N⟩)]) (txt := []) (hints := [(113, [([0, 0, 1, 1, 1, 1, 1, 1], ⟨[0, 1], [.reg 8 .t_i64 [none]], [(.ex 0, [.reg 8 .t_i64 [none]])], []⟩)])]) mixed (.cons (d_fixed_right N) (.cons (d_fixed_floorDiv N) .nil)) .nil Tryz.func113 (by kernel_rfl) (by kernel_rfl)

def gun_Output (N : Nat) (x0 : GunKind) (x1 : Int) : Option Int :=
  (fixed_At N x0.Output x1).bind fun (r2 : Int × Int) => some r2.fst
theorem d_gun_Output (N : Nat) : DenF Tryz.prog 82 ⟨[.t_GunKind, .t_i64], [.t_i64], [[none]], gun_Output N⟩ :=
  den_of (N := N) (gam := [(113, ⟨[.l_Point, .t_i64], [.t_i64, .t_i64], [[none], [none]], fixed_At N⟩)]) (txt := []) (hints := []) mixed (.cons (d_fixed_At N) .nil) .nil Tryz.func82 (by kernel_rfl) (by kernel_rfl)

def gun_Draws (N : Nat) (x0 : List GunKind) (x1 : List Gun) (x2 : Int) : Option ((List Draw)) :=
 
  (whileF N
        (fun (p3 : List Draw × Int) =>
          bif decide (p3.snd < (↑x1.length : Int)) then
            bif decide ((0 : Int) ≤ p3.snd) && decide (p3.snd < (↑x1.length : Int)) then
              (bif (x1.getD (Int.toNat p3.snd) z_Gun).State == (1 : Int) then
                    (gun_kind N x0 (x1.getD (Int.toNat p3.snd) z_Gun).Kind).bind fun (r4 : GunKind) =>
                      (gun_Output N r4 x2).bind fun (r5 : Int) =>
                        (some [Draw.mk (x1.getD (Int.toNat p3.snd) z_Gun).Node r5]).bind fun (r6 : List Draw) =>
                          bif decide ((List.length p3.fst + r6.length) * 16 ≤ 140737488355328) then
                            (some (p3.fst ++ r6)).bind fun (r7 : List Draw) => some r7
                          else none
                  else some p3.fst).bind
                fun (r8 : List Draw) => some (Sum.inl (r8, IntKind.i64.wrap (p3.snd + (1 : Int))))
            else none
          else some (Sum.inr p3.fst))
        ([], (0 : Int))).bind
    fun (r9 : List Draw) => some r9
theorem d_gun_Draws (N : Nat) : DenF Tryz.prog 40 ⟨[.l_GunKind, .l_Gun, .t_i64], [.l_Draw], [[some 77]], gun_Draws N⟩ :=
  den_of (N := N) (gam := [(83, ⟨[.l_GunKind, .t_i64], [.t_GunKind], [[none, none, none, none]], gun_kind N⟩), (82, ⟨[.t_GunKind, .t_i64], [.t_i64], [[none]], gun_Output N⟩)]) (txt := []) (hints := [(40, [([0, 1, 0, 1, 1], ⟨[0, 2, 10, 11], [.reg 7 .l_Draw [some 77], .reg 12 .t_i64 [none]], [(.ex 0, [.reg 7 .l_Draw [some 77]])], []⟩), ([1, 1, 0, 0, 1, 1, 0, 0, 1, 0, 1, 1], ⟨[0, 2, 10, 11, 12], [], [(.nrm, [.reg 7 .l_Draw [some 77]])], []⟩)])]) mixed (.cons (d_gun_kind N) (.cons (d_gun_Output N) .nil)) .nil Tryz.func40 (by kernel_rfl) (by kernel_rfl)

def pump_members (N : Nat) (x0 : Int) : Option ((List Int)) :=
 
  (whileF N
        (fun (p1 : List Int × Int) =>
          bif decide ((0 : Int) ≤ p1.snd) then
            bif shrI IntKind.i64 x0 p1.snd != (0 : Int) then
              bif decide ((0 : Int) ≤ p1.snd) then
                (bif andI IntKind.i64 (shrI IntKind.i64 x0 p1.snd) (1 : Int) == (1 : Int) then
                      (some [p1.snd]).bind fun (r2 : List Int) =>
                        bif decide ((List.length p1.fst + r2.length) * 8 ≤ 140737488355328) then
                          (some (p1.fst ++ r2)).bind fun (r3 : List Int) => some r3
                        else none
                    else some p1.fst).bind
                  fun (r4 : List Int) => some (Sum.inl (r4, IntKind.i64.wrap (p1.snd + (1 : Int))))
              else none
            else some (Sum.inr p1.fst)
          else none)
        ([], (0 : Int))).bind
    fun (r5 : List Int) => some r5
theorem d_pump_members (N : Nat) : DenF Tryz.prog 84 ⟨[.t_i64], [.l_i64], [[some 3]], pump_members N⟩ :=
  den_of (N := N) (gam := []) (txt := []) (hints := [(84, [([0, 1, 0, 1, 1], ⟨[0], [.reg 3 .l_i64 [some 3], .reg 4 .t_i64 [none]], [(.ex 0, [.reg 3 .l_i64 [some 3]])], []⟩), ([1, 0, 0, 1, 0, 0, 1, 0, 1, 1], ⟨[0, 4], [], [(.nrm, [.reg 3 .l_i64 [some 3]])], []⟩)])]) mixed .nil .nil Tryz.func84 (by kernel_rfl) (by kernel_rfl)

def sl_Index_int (N : Nat) (x0 : List Int) (x1 : Int) : Option Int :=
 
  (whileF N
        (fun (p2 : Int) =>
          bif decide (p2 < (↑x0.length : Int)) then
            bif decide ((0 : Int) ≤ p2) && decide (p2 < (↑x0.length : Int)) then
              bif x1 == x0.getD p2.toNat (0 : Int) then some (Sum.inr (Sum.inr p2))
              else some (Sum.inl (IntKind.i64.wrap (p2 + (1 : Int))))
            else none
          else some (Sum.inr (Sum.inl ())))
        (0 : Int)).bind
    fun (r3 : Unit ⊕ Int) => Sum.elim (fun (p4 : Unit) => some (-1 : Int)) (fun (p5 : Int) => some p5) r3
theorem d_sl_Index_int (N : Nat) : DenF Tryz.prog 140 ⟨[.l_i64, .t_i64], [.t_i64], [[none]], sl_Index_int N⟩ :=
  den_of (N := N) (gam := []) (txt := []) (hints := [(140, [([0, 1, 0, 1], ⟨[0, 1, 7], [.reg 8 .t_i64 [none]], [(.ex 0, []), (.ret, [.reg 4 .t_i64 [none]])], []⟩)])]) mixed .nil .nil Tryz.func140 (by kernel_rfl) (by kernel_rfl)

def sl_Contains_int (N : Nat) (x0 : List Int) (x1 : Int) : Option Bool :=
  (sl_Index_int N x0 x1).bind fun (r2 : Int) => some (decide (r2 ≥ (0 : Int)))
theorem d_sl_Contains_int (N : Nat) : DenF Tryz.prog 118 ⟨[.l_i64, .t_i64], [.t_bool], [[none]], sl_Contains_int N⟩ :=
  den_of (N := N) (gam := [(140, ⟨[.l_i64, .t_i64], [.t_i64], [[none]], sl_Index_int N⟩)]) (txt := []) (hints := []) mixed (.cons (d_sl_Index_int N) .nil) .nil Tryz.func118 (by kernel_rfl) (by kernel_rfl)

def pump_Flow (N : Nat) (x0 : List Pump) (x1 : List Int) : Option Int :=
 
  (whileF N
        (fun (p2 : Int × Int) =>
          bif decide (p2.snd < (↑x0.length : Int)) then
            bif decide ((0 : Int) ≤ p2.snd) && decide (p2.snd < (↑x0.length : Int)) then
              (sl_Contains_int N x1 p2.snd).bind fun (r3 : Bool) =>
                (bif r3 then some (IntKind.i64.wrap (p2.fst + (x0.getD (Int.toNat p2.snd) z_Pump).Flow))
                    else some p2.fst).bind
                  fun (r4 : Int) => some (Sum.inl (r4, IntKind.i64.wrap (p2.snd + (1 : Int))))
            else none
          else some (Sum.inr p2.fst))
        ((0 : Int), (0 : Int))).bind
    fun (r5 : Int) => some r5
theorem d_pump_Flow (N : Nat) : DenF Tryz.prog 85 ⟨[.l_Pump, .l_i64], [.t_i64], [[none]], pump_Flow N⟩ :=
  den_of (N := N) (gam := [(118, ⟨[.l_i64, .t_i64], [.t_bool], [[none]], sl_Contains_int N⟩)]) (txt := []) (hints := [(85, [([0, 1, 0, 1, 1], ⟨[1, 8, 9], [.reg 5 .t_i64 [none], .reg 10 .t_i64 [none]], [(.ex 0, [.reg 5 .t_i64 [none]])], []⟩), ([1, 1, 0, 0, 1, 1, 0, 0, 1, 0, 1, 1], ⟨[1, 8, 9, 10], [], [(.nrm, [.reg 5 .t_i64 [none]])], []⟩)])]) mixed (.cons (d_sl_Contains_int N) .nil) .nil Tryz.func85 (by kernel_rfl) (by kernel_rfl)

def pump_Power (N : Nat) (x0 : List Pump) (x1 : List Int) : Option Int :=
 
  (whileF N
        (fun (p2 : Int × Int) =>
          bif decide (p2.snd < (↑x0.length : Int)) then
            bif decide ((0 : Int) ≤ p2.snd) && decide (p2.snd < (↑x0.length : Int)) then
              (sl_Contains_int N x1 p2.snd).bind fun (r3 : Bool) =>
                (bif r3 then some (IntKind.i64.wrap (p2.fst + (x0.getD (Int.toNat p2.snd) z_Pump).Power))
                    else some p2.fst).bind
                  fun (r4 : Int) => some (Sum.inl (r4, IntKind.i64.wrap (p2.snd + (1 : Int))))
            else none
          else some (Sum.inr p2.fst))
        ((0 : Int), (0 : Int))).bind
    fun (r5 : Int) => some r5
theorem d_pump_Power (N : Nat) : DenF Tryz.prog 86 ⟨[.l_Pump, .l_i64], [.t_i64], [[none]], pump_Power N⟩ :=
  den_of (N := N) (gam := [(118, ⟨[.l_i64, .t_i64], [.t_bool], [[none]], sl_Contains_int N⟩)]) (txt := []) (hints := [(86, [([0, 1, 0, 1, 1], ⟨[1, 8, 9], [.reg 5 .t_i64 [none], .reg 10 .t_i64 [none]], [(.ex 0, [.reg 5 .t_i64 [none]])], []⟩), ([1, 1, 0, 0, 1, 1, 0, 0, 1, 0, 1, 1], ⟨[1, 8, 9, 10], [], [(.nrm, [.reg 5 .t_i64 [none]])], []⟩)])]) mixed (.cons (d_sl_Contains_int N) .nil) .nil Tryz.func86 (by kernel_rfl) (by kernel_rfl)

def cmp_isNaN_int_ (N : Nat) (x0 : Int) : Option Bool :=
  some (x0 != x0)
theorem d_cmp_isNaN_int_ (N : Nat) : DenF Tryz.prog 141 ⟨[.t_i64], [.t_bool], [[none]], cmp_isNaN_int_ N⟩ :=
  den_of (N := N) (gam := []) (txt := []) (hints := []) mixed .nil .nil Tryz.func141 (by kernel_rfl) (by kernel_rfl)

def cmp_Compare_int_ (N : Nat) (x0 x1 : Int) : Option Int :=
 
  (cmp_isNaN_int_ N x0).bind fun (r2 : Bool) =>
    (cmp_isNaN_int_ N x1).bind fun (r3 : Bool) =>
      bif r2 then bif r3 then some (0 : Int) else some (-1 : Int)
      else
        bif r3 then some (1 : Int)
        else bif decide (x0 < x1) then some (-1 : Int) else bif decide (x0 > x1) then some (1 : Int) else some (0 : Int)
theorem d_cmp_Compare_int_ (N : Nat) : DenF Tryz.prog 119 ⟨[.t_i64, .t_i64], [.t_i64], [[none]], cmp_Compare_int_ N⟩ :=
  den_of (N := N) (gam := [(141, ⟨[.t_i64], [.t_bool], [[none]], cmp_isNaN_int_ N⟩)]) (txt := []) (hints := []) mixed (.cons (d_cmp_isNaN_int_ N) .nil) .nil Tryz.func119 (by kernel_rfl) (by kernel_rfl)

def sl_Compare_int (N : Nat) (x0 x1 : List Int) : Option Int :=
 
  (whileF N
        (fun (p2 : Int) =>
          bif decide (p2 < (↑x0.length : Int)) then
            bif decide ((0 : Int) ≤ p2) && decide (p2 < (↑x0.length : Int)) then
              bif decide (p2 ≥ (↑x1.length : Int)) then some (Sum.inr (Sum.inr (1 : Int)))
              else
                bif decide ((0 : Int) ≤ p2) && decide (p2 < (↑x1.length : Int)) then
                  (cmp_Compare_int_ N (x0.getD p2.toNat (0 : Int)) (x1.getD p2.toNat (0 : Int))).bind fun (r3 : Int) =>
                    bif r3 != (0 : Int) then some (Sum.inr (Sum.inr r3))
                    else some (Sum.inl (IntKind.i64.wrap (p2 + (1 : Int))))
                else none
            else none
          else some (Sum.inr (Sum.inl ())))
        (0 : Int)).bind
    fun (r4 : Unit ⊕ Int) =>
    Sum.elim
      (fun (p5 : Unit) => bif decide ((↑x0.length : Int) < (↑x1.length : Int)) then some (-1 : Int) else some (0 : Int))
      (fun (p6 : Int) => some p6) r4
theorem d_sl_Compare_int (N : Nat) : DenF Tryz.prog 87 ⟨[.l_i64, .l_i64], [.t_i64], [[none]], sl_Compare_int N⟩ :=
  den_of (N := N) (gam := [(119, ⟨[.t_i64, .t_i64], [.t_i64], [[none]], cmp_Compare_int_ N⟩)]) (txt := []) (hints := [(87, [([0, 1, 0, 1], ⟨[0, 1, 9, 10], [.reg 11 .t_i64 [none]], [(.ex 0, []), (.ret, [.reg 4 .t_i64 [none]])], []⟩)])]) mixed (.cons (d_cmp_Compare_int_ N) .nil) .nil Tryz.func87 (by kernel_rfl) (by kernel_rfl)

def pump_Best (N : Nat) (x0 : List Pump) (x1 : Int) : Option ((List Int) × Int × Int) :=
 
  bif decide (x1 < (0 : Int)) then some ([], (0 : Int), (2 : Int))
  else
    bif decide ((↑x0.length : Int) > (8 : Int)) then some ([], (0 : Int), (4 : Int))
    else
      (pump_members N (IntKind.i64.wrap (shlI IntKind.i64 (1 : Int) (↑x0.length : Int) - (1 : Int)))).bind
        fun (r2 : List Int) =>
        (pump_Flow N x0 r2).bind fun (r3 : Int) =>
          bif decide (r3 < x1) then some ([], (0 : Int), (9 : Int))
          else
            (pump_Power N x0 r2).bind fun (r4 : Int) =>
              (whileF N
                    (fun (p5 : List Int × Int × Int) =>
                      bif
                          decide
                            (p5.snd.snd <
                              IntKind.i64.wrap (shlI IntKind.i64 (1 : Int) (↑x0.length : Int) - (1 : Int))) then
                        ((pump_members N p5.snd.snd).bind fun (r6 : List Int) =>
                              (pump_Flow N x0 r6).bind fun (r7 : Int) =>
                                bif decide (r7 < x1) then some (p5.fst, p5.snd.fst)
                                else
                                  (pump_Power N x0 r6).bind fun (r8 : Int) =>
                                    (bif decide (r8 < p5.snd.fst) then some true
                                        else
                                          bif r8 == p5.snd.fst then
                                            (sl_Compare_int N r6 p5.fst).bind fun (r9 : Int) =>
                                              some (decide (r9 < (0 : Int)))
                                          else some false).bind
                                      fun (r10 : Bool) =>
                                      (bif r10 then some (r6, r8) else some (p5.fst, p5.snd.fst)).bind
                                        fun (r11 : List Int × Int) => some r11).bind
                          fun (r12 : List Int × Int) =>
                          some (Sum.inl (r12.fst, r12.snd, IntKind.i64.wrap (p5.snd.snd + (1 : Int))))
                      else some (Sum.inr (p5.fst, p5.snd.fst)))
                    (r2, r4, (0 : Int))).bind
                fun (r13 : List Int × Int) => some (r13.fst, r13.snd, (0 : Int))
theorem d_pump_Best (N : Nat) : DenF Tryz.prog 41 ⟨[.l_Pump, .t_i64], [.l_i64, .t_i64, .t_i64], [[none], [none], [none]], pump_Best N⟩ :=
  den_of (N := N) (gam := [(84, ⟨[.t_i64], [.l_i64], [[some 3]], pump_members N⟩), (85, ⟨[.l_Pump, .l_i64], [.t_i64], [[none]], pump_Flow N⟩), (86, ⟨[.l_Pump, .l_i64], [.t_i64], [[none]], pump_Power N⟩), (87, ⟨[.l_i64, .l_i64], [.t_i64], [[none]], sl_Compare_int N⟩)]) (txt := []) (hints := [(41, [([0, 1, 0, 1, 1, 1, 1, 1, 1, 1], ⟨[0, 1, 32], [.reg 8 .l_i64 [none], .reg 9 .t_i64 [none], .reg 33 .t_i64 [none]], [(.ex 0, [.reg 8 .l_i64 [none], .reg 9 .t_i64 [none]])], []⟩), ([0, 1, 1, 0, 0, 1, 0, 1, 1, 1, 1, 1, 1, 1], ⟨[0, 1, 32, 33], [], [(.nrm, [.reg 8 .l_i64 [none], .reg 9 .t_i64 [none]])], []⟩), ([0, 1, 1, 1, 1, 0, 0, 1, 1, 0, 0, 1, 0, 1, 1, 1, 1, 1, 1, 1], ⟨[0, 1, 8, 9, 11, 12, 32, 33], [], [(.nrm, [.reg 59 .t_bool [none]])], []⟩), ([1, 1, 1, 1, 1, 0, 0, 1, 1, 0, 0, 1, 0, 1, 1, 1, 1, 1, 1, 1], ⟨[0, 1, 32, 33], [], [(.nrm, [.reg 8 .l_i64 [none], .reg 9 .t_i64 [none]])], [11]⟩)])]) mixed (.cons (d_pump_members N) (.cons (d_pump_Flow N) (.cons (d_pump_Power N) (.cons (d_sl_Compare_int N) .nil)))) .nil Tryz.func41 (by kernel_rfl) (by kernel_rfl)

def gun_Power (N : Nat) (x0 : List GunKind) (x1 : List Gun) : Option Int :=
 
  (whileF N
        (fun (p2 : Int × Int) =>
          bif decide (p2.snd < (↑x1.length : Int)) then
            bif decide ((0 : Int) ≤ p2.snd) && decide (p2.snd < (↑x1.length : Int)) then
              (bif (x1.getD (Int.toNat p2.snd) z_Gun).State == (1 : Int) then
                    (gun_kind N x0 (x1.getD (Int.toNat p2.snd) z_Gun).Kind).bind fun (r3 : GunKind) =>
                      some (IntKind.i64.wrap (p2.fst + r3.Power))
                  else some p2.fst).bind
                fun (r4 : Int) => some (Sum.inl (r4, IntKind.i64.wrap (p2.snd + (1 : Int))))
            else none
          else some (Sum.inr p2.fst))
        ((0 : Int), (0 : Int))).bind
    fun (r5 : Int) => some r5
theorem d_gun_Power (N : Nat) : DenF Tryz.prog 42 ⟨[.l_GunKind, .l_Gun], [.t_i64], [[none]], gun_Power N⟩ :=
  den_of (N := N) (gam := [(83, ⟨[.l_GunKind, .t_i64], [.t_GunKind], [[none, none, none, none]], gun_kind N⟩)]) (txt := []) (hints := [(42, [([0, 1, 0, 1, 1], ⟨[0, 8, 9], [.reg 5 .t_i64 [none], .reg 10 .t_i64 [none]], [(.ex 0, [.reg 5 .t_i64 [none]])], []⟩), ([1, 1, 0, 0, 1, 1, 0, 0, 1, 0, 1, 1], ⟨[0, 8, 9, 10], [], [(.nrm, [.reg 5 .t_i64 [none]])], []⟩)])]) mixed (.cons (d_gun_kind N) .nil) .nil Tryz.func42 (by kernel_rfl) (by kernel_rfl)
end Go.Proofs.YtkhkblihdabnoaaGreat
