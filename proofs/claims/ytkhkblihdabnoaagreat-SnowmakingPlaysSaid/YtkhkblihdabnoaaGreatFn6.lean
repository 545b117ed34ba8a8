/- Written by a program (gen.py, asm.py): what each function computes, as a plain function, and that its text computes it. No condition. -/
import Derived.Test.YtkhkblihdabnoaaGreatFn5
import Derived.Test.YtkhkblihdabnoaaGreatCmo
namespace Go.Proofs.YtkhkblihdabnoaaGreat
open Go.Cm Go.Proofs
set_option linter.unusedVariables false
set_option maxRecDepth 100000

def r01_Points (N : Nat) (x0 : List Point) : Option Bool :=
 
  (bif decide ((↑x0.length : Int) < (1 : Int)) then some true else some (decide ((↑x0.length : Int) > (64 : Int)))).bind
    fun (r1 : Bool) =>
    bif r1 then some false
    else
      (whileF N
            (fun (p2 : Int) =>
              bif decide (p2 < (↑x0.length : Int)) then
                (bif decide ((0 : Int) ≤ p2) && decide (p2 < (↑x0.length : Int)) then
                      (r01_Within N (x0.getD p2.toNat z_Point).X (1000000000 : Int)).bind fun (r3 : Bool) =>
                        bif !r3 then some true
                        else
                          bif decide ((0 : Int) ≤ p2) && decide (p2 < (↑x0.length : Int)) then
                            (r01_Within N (x0.getD p2.toNat z_Point).Y (1000000000 : Int)).bind fun (r4 : Bool) =>
                              bif !r4 then some true
                              else
                                bif decide (p2 > (0 : Int)) then
                                  bif decide ((0 : Int) ≤ p2) && decide (p2 < (↑x0.length : Int)) then
                                    bif
                                        decide ((0 : Int) ≤ IntKind.i64.wrap (p2 - (1 : Int))) &&
                                          decide (IntKind.i64.wrap (p2 - (1 : Int)) < (↑x0.length : Int)) then
                                      some
                                        (decide
                                          ((x0.getD p2.toNat z_Point).X ≤
                                            (x0.getD (IntKind.i64.wrap (p2 - (1 : Int))).toNat z_Point).X))
                                    else none
                                  else none
                                else some false
                          else none
                    else none).bind
                  fun (r5 : Bool) =>
                  bif r5 then some (Sum.inr (Sum.inr false)) else some (Sum.inl (IntKind.i64.wrap (p2 + (1 : Int))))
              else some (Sum.inr (Sum.inl ())))
            (0 : Int)).bind
        fun (r6 : Unit ⊕ Bool) => Sum.elim (fun (p7 : Unit) => some true) (fun (p8 : Bool) => some p8) r6
theorem d_r01_Points (N : Nat) : DenF Tryz.prog 142 ⟨[.l_Point], [.t_bool], [[none]], r01_Points N⟩ :=
  den_of (N := N) (gam := [(151, ⟨[.t_i64, .t_i64], [.t_bool], [[none]], r01_Within N⟩)]) (txt := []) (hints := [(142, [([0, 0, 1], ⟨[0], [], [(.nrm, [.reg 11 .t_bool [none]])], []⟩), ([0, 1, 0, 1, 1], ⟨[0], [.reg 3 .t_i64 [none]], [(.ex 0, []), (.ret, [.reg 2 .t_bool [none]])], []⟩), ([0, 0, 0, 1, 0, 0, 1, 0, 1, 1], ⟨[0, 3], [], [(.nrm, [.reg 51 .t_bool [none]])], []⟩)])]) mixed (.cons (d_r01_Within N) .nil) .nil Tryz.func142 (by kernel_rfl) (by kernel_rfl)

def r01_Floor (N : Nat) (x0 x1 : Int) : Option Int :=
 
  bif x1 != (0 : Int) then
    bif x1 != (0 : Int) then
      bif decide (x0.tmod x1 < (0 : Int)) then some (IntKind.i64.wrap (IntKind.i64.wrap (x0.tdiv x1) - (1 : Int)))
      else some (IntKind.i64.wrap (x0.tdiv x1))
    else none
  else none
theorem d_r01_Floor (N : Nat) : DenF Tryz.prog 143 ⟨[.t_i64, .t_i64], [.t_i64], [[none]], r01_Floor N⟩ :=
  den_of (N := N) (gam := []) (txt := []) (hints := []) mixed .nil .nil Tryz.func143 (by kernel_rfl) (by kernel_rfl)

def r01_At (N : Nat) (x0 : List Point) (x1 : Int) : Option (Int × Int) :=
 
  (r01_Points N x0).bind fun (r2 : Bool) =>
    bif !r2 then some ((0 : Int), (1 : Int))
    else
      bif
          decide ((0 : Int) ≤ IntKind.i64.wrap ((↑x0.length : Int) - (1 : Int))) &&
            decide (IntKind.i64.wrap ((↑x0.length : Int) - (1 : Int)) < (↑x0.length : Int)) then
        bif true && decide ((0 : Int) < (↑x0.length : Int)) then
          bif decide (x1 ≤ (x0.getD 0 z_Point).X) then
            bif true && decide ((0 : Int) < (↑x0.length : Int)) then some ((x0.getD 0 z_Point).Y, (0 : Int))
            else none
          else
            bif decide (x1 ≥ (x0.getD (IntKind.i64.wrap ((↑x0.length : Int) - (1 : Int))).toNat z_Point).X) then
              some ((x0.getD (IntKind.i64.wrap ((↑x0.length : Int) - (1 : Int))).toNat z_Point).Y, (0 : Int))
            else
              (whileF N
                    (fun (p3 : Int) =>
                      bif
                          decide ((0 : Int) ≤ IntKind.i64.wrap (p3 + (1 : Int))) &&
                            decide (IntKind.i64.wrap (p3 + (1 : Int)) < (↑x0.length : Int)) then
                        bif decide ((x0.getD (IntKind.i64.wrap (p3 + (1 : Int))).toNat z_Point).X ≤ x1) then
                          some (Sum.inl (IntKind.i64.wrap (p3 + (1 : Int))))
                        else some (Sum.inr p3)
                      else none)
                    (0 : Int)).bind
                fun (r4 : Int) =>
                bif decide ((0 : Int) ≤ r4) && decide (r4 < (↑x0.length : Int)) then
                  bif
                      decide ((0 : Int) ≤ IntKind.i64.wrap (r4 + (1 : Int))) &&
                        decide (IntKind.i64.wrap (r4 + (1 : Int)) < (↑x0.length : Int)) then
                    (r01_Floor N
                          (IntKind.i64.wrap
                            (IntKind.i64.wrap
                                ((x0.getD (IntKind.i64.wrap (r4 + (1 : Int))).toNat z_Point).Y -
                                  (x0.getD r4.toNat z_Point).Y) *
                              IntKind.i64.wrap (x1 - (x0.getD r4.toNat z_Point).X)))
                          (IntKind.i64.wrap
                            ((x0.getD (IntKind.i64.wrap (r4 + (1 : Int))).toNat z_Point).X -
                              (x0.getD r4.toNat z_Point).X))).bind
                      fun (r5 : Int) => some (IntKind.i64.wrap ((x0.getD r4.toNat z_Point).Y + r5), (0 : Int))
                  else none
                else none
        else none
      else none
theorem d_r01_At (N : Nat) : DenF Tryz.prog 120 ⟨[.l_Point, .t_i64], [.t_i64, .t_i64], [[none], [none]], r01_At N⟩ :=
  den_of (N := N) (gam := [(142, ⟨[.l_Point], [.t_bool], [[none]], r01_Points N⟩), (143, ⟨[.t_i64, .t_i64], [.t_i64], [[none]], r01_Floor N⟩)]) (txt := []) (hints := [(120, [([0, 0, 1, 1, 1, 1, 1, 1], ⟨[0, 1], [.reg 7 .t_i64 [none]], [(.ex 0, [.reg 7 .t_i64 [none]])], []⟩)])]) mixed (.cons (d_r01_Points N) (.cons (d_r01_Floor N) .nil)) .nil Tryz.func120 (by kernel_rfl) (by kernel_rfl)

def r42_kind (N : Nat) (x0 : List GunKind) (x1 : Int) : Option Int :=
 
  bif decide ((0 : Int) ≤ x1) && decide (x1 < (↑x0.length : Int)) then
    (bif decide ((x0.getD x1.toNat z_GunKind).ID < (1 : Int)) then some true
        else
          bif decide ((x0.getD x1.toNat z_GunKind).ID > (9999 : Int)) then some true
          else
            bif decide ((x0.getD x1.toNat z_GunKind).Power < (0 : Int)) then some true
            else
              bif decide ((x0.getD x1.toNat z_GunKind).Power > (1000000 : Int)) then some true
              else
                bif decide ((x0.getD x1.toNat z_GunKind).Pressure < (0 : Int)) then some true
                else some (decide ((x0.getD x1.toNat z_GunKind).Pressure > (1000000 : Int)))).bind
      fun (r2 : Bool) =>
      bif r2 then some (2 : Int)
      else
        (whileF N
              (fun (p3 : Int) =>
                bif decide (p3 < x1) then
                  bif decide ((0 : Int) ≤ p3) && decide (p3 < (↑x0.length : Int)) then
                    bif (x0.getD p3.toNat z_GunKind).ID == (x0.getD x1.toNat z_GunKind).ID then
                      some (Sum.inr (Sum.inr (7 : Int)))
                    else some (Sum.inl (IntKind.i64.wrap (p3 + (1 : Int))))
                  else none
                else some (Sum.inr (Sum.inl ())))
              (0 : Int)).bind
          fun (r4 : Unit ⊕ Int) =>
          Sum.elim
            (fun (p5 : Unit) =>
              (r01_At N (x0.getD x1.toNat z_GunKind).Output (0 : Int)).bind fun (r6 : Int × Int) =>
                bif r6.snd != (0 : Int) then some (1 : Int)
                else
                  (whileF N
                        (fun (p7 : Int) =>
                          bif decide (p7 < (↑(x0.getD x1.toNat z_GunKind).Output.length : Int)) then
                            (bif
                                    decide ((0 : Int) ≤ p7) &&
                                      decide (p7 < (↑(x0.getD x1.toNat z_GunKind).Output.length : Int)) then
                                  bif
                                      decide
                                        (((x0.getD x1.toNat z_GunKind).Output.getD p7.toNat z_Point).Y < (0 : Int)) then
                                    some true
                                  else
                                    bif
                                        decide ((0 : Int) ≤ p7) &&
                                          decide (p7 < (↑(x0.getD x1.toNat z_GunKind).Output.length : Int)) then
                                      bif
                                          decide
                                            (((x0.getD x1.toNat z_GunKind).Output.getD p7.toNat z_Point).Y >
                                              (10000 : Int)) then
                                        some true
                                      else
                                        bif decide (p7 > (0 : Int)) then
                                          bif
                                              decide ((0 : Int) ≤ p7) &&
                                                decide (p7 < (↑(x0.getD x1.toNat z_GunKind).Output.length : Int)) then
                                            bif
                                                decide ((0 : Int) ≤ IntKind.i64.wrap (p7 - (1 : Int))) &&
                                                  decide
                                                    (IntKind.i64.wrap (p7 - (1 : Int)) <
                                                      (↑(x0.getD x1.toNat z_GunKind).Output.length : Int)) then
                                              some
                                                (decide
                                                  (((x0.getD x1.toNat z_GunKind).Output.getD p7.toNat z_Point).Y >
                                                    ((x0.getD x1.toNat z_GunKind).Output.getD
                                                        (IntKind.i64.wrap (p7 - (1 : Int))).toNat z_Point).Y))
                                            else none
                                          else none
                                        else some false
                                    else none
                                else none).bind
                              fun (r8 : Bool) =>
                              bif r8 then some (Sum.inr (Sum.inr (1 : Int)))
                              else some (Sum.inl (IntKind.i64.wrap (p7 + (1 : Int))))
                          else some (Sum.inr (Sum.inl ())))
                        (0 : Int)).bind
                    fun (r9 : Unit ⊕ Int) =>
                    Sum.elim (fun (p10 : Unit) => some (0 : Int)) (fun (p11 : Int) => some p11) r9)
            (fun (p12 : Int) => some p12) r4
  else none
theorem d_r42_kind (N : Nat) : DenF Tryz.prog 114 ⟨[.l_GunKind, .t_i64], [.t_i64], [[none]], r42_kind N⟩ :=
  den_of (N := N) (gam := [(120, ⟨[.l_Point, .t_i64], [.t_i64, .t_i64], [[none], [none]], r01_At N⟩)]) (txt := []) (hints := [(114, [([0, 0, 1, 1], ⟨[0, 1, 5], [], [(.nrm, [.reg 41 .t_bool [none]])], []⟩), ([0, 1, 0, 1, 1, 1], ⟨[0, 1, 5], [.reg 6 .t_i64 [none]], [(.ex 0, []), (.ret, [.reg 4 .t_i64 [none]])], []⟩), ([0, 1, 0, 1, 1, 1, 1, 1], ⟨[5], [.reg 9 .t_i64 [none]], [(.ex 2, []), (.ret, [.reg 4 .t_i64 [none]])], []⟩), ([0, 0, 0, 1, 0, 0, 1, 0, 1, 1, 1, 1, 1], ⟨[5, 9], [], [(.nrm, [.reg 105 .t_bool [none]])], []⟩)])]) mixed (.cons (d_r01_At N) .nil) .nil Tryz.func114 (by kernel_rfl) (by kernel_rfl)

def r42_id (N : Nat) (x0 : Int) : Option Bool :=
 
  (bif decide (x0 ≥ (1 : Int)) then some (decide (x0 ≤ (9999 : Int))) else some false).bind fun (r1 : Bool) => some r1
theorem d_r42_id (N : Nat) : DenF Tryz.prog 115 ⟨[.t_i64], [.t_bool], [[none]], r42_id N⟩ :=
  den_of (N := N) (gam := []) (txt := []) (hints := [(115, [([0, 1], ⟨[], [], [(.nrm, [.reg 2 .t_bool [none]])], []⟩)])]) mixed .nil .nil Tryz.func115 (by kernel_rfl) (by kernel_rfl)

def r42_day (N : Nat) (x0 : Int) : Option Bool :=
 
  (bif decide (x0 ≥ (0 : Int)) then some (decide (x0 ≤ (86400 : Int))) else some false).bind fun (r1 : Bool) => some r1
theorem d_r42_day (N : Nat) : DenF Tryz.prog 116 ⟨[.t_i64], [.t_bool], [[none]], r42_day N⟩ :=
  den_of (N := N) (gam := []) (txt := []) (hints := [(116, [([0, 1], ⟨[], [], [(.nrm, [.reg 2 .t_bool [none]])], []⟩)])]) mixed .nil .nil Tryz.func116 (by kernel_rfl) (by kernel_rfl)

def r42_find (N : Nat) (x0 : List GunKind) (x1 : Int) : Option (GunKind × Bool) :=
 
  (whileF N
        (fun (p2 : Int × GunKind) =>
          bif decide (p2.fst < (↑x0.length : Int)) then
            bif decide ((0 : Int) ≤ p2.fst) && decide (p2.fst < (↑x0.length : Int)) then
              bif (x0.getD (Int.toNat p2.fst) z_GunKind).ID == x1 then
                bif decide ((0 : Int) ≤ p2.fst) && decide (p2.fst < (↑x0.length : Int)) then
                  some (Sum.inr (Sum.inr (true, x0.getD (Int.toNat p2.fst) z_GunKind)))
                else none
              else some (Sum.inl (IntKind.i64.wrap (p2.fst + (1 : Int)), p2.snd))
            else none
          else some (Sum.inr (Sum.inl p2.snd)))
        ((0 : Int), z_GunKind)).bind
    fun (r3 : GunKind ⊕ Bool × GunKind) =>
    Sum.elim (fun (p4 : GunKind) => some (z_GunKind, false)) (fun (p5 : Bool × GunKind) => some (p5.snd, p5.fst)) r3
theorem d_r42_find (N : Nat) : DenF Tryz.prog 88 ⟨[.l_GunKind, .t_i64], [.t_GunKind, .t_bool], [[none, none, none, none], [none]], r42_find N⟩ :=
  den_of (N := N) (gam := []) (txt := []) (hints := [(88, [([0, 1, 0, 1], ⟨[0, 1, 4], [.reg 6 .t_i64 [none], .var 4 .t_GunKind [none, none, none, none]], [(.ex 0, [.var 4 .t_GunKind [none, none, none, none]]), (.ret, [.reg 5 .t_bool [none], .var 4 .t_GunKind [none, none, none, none]])], []⟩)])]) mixed .nil .nil Tryz.func88 (by kernel_rfl) (by kernel_rfl)

def r42_Right (N : Nat) (x0 : List GunKind) (x1 : List Gun) : Option Int :=
 
  (bif decide ((↑x0.length : Int) > (64 : Int)) then some true
      else some (decide ((↑x1.length : Int) > (64 : Int)))).bind
    fun (r2 : Bool) =>
    bif r2 then some (4 : Int)
    else
      (whileF N
            (fun (p3 : Int) =>
              bif decide (p3 < (↑x0.length : Int)) then
                (r42_kind N x0 p3).bind fun (r4 : Int) =>
                  bif r4 != (0 : Int) then some (Sum.inr (Sum.inr r4))
                  else some (Sum.inl (IntKind.i64.wrap (p3 + (1 : Int))))
              else some (Sum.inr (Sum.inl ())))
            (0 : Int)).bind
        fun (r5 : Unit ⊕ Int) =>
        Sum.elim
          (fun (p6 : Unit) =>
            (whileF N
                  (fun (p7 : Int) =>
                    bif decide (p7 < (↑x1.length : Int)) then
                      bif decide ((0 : Int) ≤ p7) && decide (p7 < (↑x1.length : Int)) then
                        ((r42_id N (x1.getD p7.toNat z_Gun).ID).bind fun (r8 : Bool) =>
                              bif !r8 then some true
                              else
                                (r42_id N (x1.getD p7.toNat z_Gun).Node).bind fun (r9 : Bool) =>
                                  bif !r9 then some true
                                  else
                                    (r42_id N (x1.getD p7.toNat z_Gun).Run).bind fun (r10 : Bool) =>
                                      bif !r10 then some true
                                      else
                                        bif decide ((x1.getD p7.toNat z_Gun).State < (0 : Int)) then some true
                                        else
                                          bif decide ((x1.getD p7.toNat z_Gun).State > (2 : Int)) then some true
                                          else
                                            bif decide ((x1.getD p7.toNat z_Gun).Since < (0 : Int)) then some true
                                            else
                                              bif decide ((x1.getD p7.toNat z_Gun).Since > (20000000 : Int)) then
                                                some true
                                              else
                                                (r42_day N (x1.getD p7.toNat z_Gun).On).bind fun (r11 : Bool) =>
                                                  bif !r11 then some true
                                                  else
                                                    (r42_day N (x1.getD p7.toNat z_Gun).Off).bind fun (r12 : Bool) =>
                                                      some !r12).bind
                          fun (r13 : Bool) =>
                          bif r13 then some (Sum.inr (Sum.inr (2 : Int)))
                          else
                            (whileF N
                                  (fun (p14 : Int) =>
                                    bif decide (p14 < p7) then
                                      bif decide ((0 : Int) ≤ p14) && decide (p14 < (↑x1.length : Int)) then
                                        bif (x1.getD p14.toNat z_Gun).ID == (x1.getD p7.toNat z_Gun).ID then
                                          some (Sum.inr (Sum.inr (7 : Int)))
                                        else some (Sum.inl (IntKind.i64.wrap (p14 + (1 : Int))))
                                      else none
                                    else some (Sum.inr (Sum.inl ())))
                                  (0 : Int)).bind
                              fun (r15 : Unit ⊕ Int) =>
                              Sum.elim
                                (fun (p16 : Unit) =>
                                  (r42_find N x0 (x1.getD p7.toNat z_Gun).Kind).bind fun (r17 : GunKind × Bool) =>
                                    bif !r17.snd then some (Sum.inr (Sum.inr (8 : Int)))
                                    else some (Sum.inl (IntKind.i64.wrap (p7 + (1 : Int)))))
                                (fun (p18 : Int) => some (Sum.inr (Sum.inr p18))) r15
                      else none
                    else some (Sum.inr (Sum.inl ())))
                  (0 : Int)).bind
              fun (r19 : Unit ⊕ Int) => Sum.elim (fun (p20 : Unit) => some (0 : Int)) (fun (p21 : Int) => some p21) r19)
          (fun (p22 : Int) => some p22) r5
theorem d_r42_Right (N : Nat) : DenF Tryz.prog 80 ⟨[.l_GunKind, .l_Gun], [.t_i64], [[none]], r42_Right N⟩ :=
  den_of (N := N) (gam := [(114, ⟨[.l_GunKind, .t_i64], [.t_i64], [[none]], r42_kind N⟩), (115, ⟨[.t_i64], [.t_bool], [[none]], r42_id N⟩), (116, ⟨[.t_i64], [.t_bool], [[none]], r42_day N⟩), (88, ⟨[.l_GunKind, .t_i64], [.t_GunKind, .t_bool], [[none, none, none, none], [none]], r42_find N⟩)]) (txt := []) (hints := [(80, [([0, 0, 1], ⟨[0, 1], [], [(.nrm, [.reg 19 .t_bool [none]])], []⟩), ([0, 1, 0, 1, 1], ⟨[0, 1], [.reg 5 .t_i64 [none]], [(.ex 0, []), (.ret, [.reg 4 .t_i64 [none]])], []⟩), ([0, 1, 0, 1, 1, 1], ⟨[0, 1], [.reg 7 .t_i64 [none]], [(.ex 2, []), (.ret, [.reg 4 .t_i64 [none]])], []⟩), ([0, 0, 1, 0, 0, 1, 0, 0, 1, 0, 1, 1, 1], ⟨[0, 1, 7, 8], [], [(.nrm, [.reg 89 .t_bool [none]])], []⟩), ([0, 1, 0, 1, 1, 0, 0, 1, 0, 0, 1, 0, 1, 1, 1], ⟨[0, 1, 7, 8], [.reg 9 .t_i64 [none]], [(.ex 4, []), (.ret, [.reg 4 .t_i64 [none]])], []⟩)])]) mixed (.cons (d_r42_kind N) (.cons (d_r42_id N) (.cons (d_r42_day N) (.cons (d_r42_find N) .nil)))) .nil Tryz.func80 (by kernel_rfl) (by kernel_rfl)

def r44_parts (N : Nat) (x0 : SnowSystem) : Option Int :=
 
  (r39_Right N x0.Ponds).bind fun (r1 : Int) =>
    bif r1 != (0 : Int) then some r1
    else
      (r41_Right N x0.Pumps).bind fun (r2 : Int) =>
        bif r2 != (0 : Int) then some r2
        else
          (r40_Right N x0.Pipes).bind fun (r3 : Int) =>
            bif r3 != (0 : Int) then some r3 else (r42_Right N x0.Kinds x0.Guns).bind fun (r4 : Int) => some r4
theorem d_r44_parts (N : Nat) : DenF Tryz.prog 35 ⟨[.t_SnowSystem], [.t_i64], [[none]], r44_parts N⟩ :=
  den_of (N := N) (gam := [(77, ⟨[.l_Pond], [.t_i64], [[none]], r39_Right N⟩), (78, ⟨[.l_Pump], [.t_i64], [[none]], r41_Right N⟩), (79, ⟨[.l_Pipe], [.t_i64], [[none]], r40_Right N⟩), (80, ⟨[.l_GunKind, .l_Gun], [.t_i64], [[none]], r42_Right N⟩)]) (txt := []) (hints := []) mixed (.cons (d_r39_Right N) (.cons (d_r41_Right N) (.cons (d_r40_Right N) (.cons (d_r42_Right N) .nil)))) .nil Tryz.func35 (by kernel_rfl) (by kernel_rfl)

def r13_in (N : Nat) (x0 x1 x2 : Int) : Option Bool :=
 
  (bif decide (x0 ≥ x1) then some (decide (x0 ≤ x2)) else some false).bind fun (r3 : Bool) => some r3
theorem d_r13_in (N : Nat) : DenF Tryz.prog 117 ⟨[.t_i64, .t_i64, .t_i64], [.t_bool], [[none]], r13_in N⟩ :=
  den_of (N := N) (gam := []) (txt := []) (hints := [(117, [([0, 1], ⟨[], [], [(.nrm, [.reg 6 .t_bool [none]])], []⟩)])]) mixed .nil .nil Tryz.func117 (by kernel_rfl) (by kernel_rfl)

def r13_Right (N : Nat) (x0 : Pack) : Option Bool :=
 
  ((r13_in N x0.Natural (0 : Int) (20000 : Int)).bind fun (r1 : Bool) =>
        bif r1 then
          (r13_in N x0.Machine (0 : Int) (20000 : Int)).bind fun (r2 : Bool) =>
            bif r2 then (r13_in N x0.Density (50 : Int) (900 : Int)).bind fun (r3 : Bool) => some r3 else some false
        else some false).bind
    fun (r4 : Bool) => some r4
theorem d_r13_Right (N : Nat) : DenF Tryz.prog 81 ⟨[.t_Pack], [.t_bool], [[none]], r13_Right N⟩ :=
  den_of (N := N) (gam := [(117, ⟨[.t_i64, .t_i64, .t_i64], [.t_bool], [[none]], r13_in N⟩)]) (txt := []) (hints := [(81, [([0, 1], ⟨[], [], [(.nrm, [.reg 2 .t_bool [none]])], []⟩)])]) mixed (.cons (d_r13_in N) .nil) .nil Tryz.func81 (by kernel_rfl) (by kernel_rfl)

def r44_Packs (N : Nat) (x0 : List RunPack) : Option Int :=
 
  (whileF N
        (fun (p1 : Int) =>
          bif decide (p1 < (↑x0.length : Int)) then
            (bif decide ((0 : Int) ≤ p1) && decide (p1 < (↑x0.length : Int)) then
                  bif decide ((x0.getD p1.toNat z_RunPack).Run < (1 : Int)) then some true
                  else
                    bif decide ((0 : Int) ≤ p1) && decide (p1 < (↑x0.length : Int)) then
                      bif decide ((x0.getD p1.toNat z_RunPack).Run > (9999 : Int)) then some true
                      else
                        bif decide ((0 : Int) ≤ p1) && decide (p1 < (↑x0.length : Int)) then
                          bif decide ((x0.getD p1.toNat z_RunPack).Area < (1 : Int)) then some true
                          else
                            bif decide ((0 : Int) ≤ p1) && decide (p1 < (↑x0.length : Int)) then
                              bif decide ((x0.getD p1.toNat z_RunPack).Area > (10000000 : Int)) then some true
                              else
                                bif decide ((0 : Int) ≤ p1) && decide (p1 < (↑x0.length : Int)) then
                                  (r13_Right N (x0.getD p1.toNat z_RunPack).Pack).bind fun (r2 : Bool) => some !r2
                                else none
                            else none
                        else none
                    else none
                else none).bind
              fun (r3 : Bool) =>
              bif r3 then some (Sum.inr (Sum.inr (2 : Int)))
              else
                (bif decide (p1 > (0 : Int)) then
                      bif decide ((0 : Int) ≤ p1) && decide (p1 < (↑x0.length : Int)) then
                        bif
                            decide ((0 : Int) ≤ IntKind.i64.wrap (p1 - (1 : Int))) &&
                              decide (IntKind.i64.wrap (p1 - (1 : Int)) < (↑x0.length : Int)) then
                          some
                            (decide
                              ((x0.getD p1.toNat z_RunPack).Run ≤
                                (x0.getD (IntKind.i64.wrap (p1 - (1 : Int))).toNat z_RunPack).Run))
                        else none
                      else none
                    else some false).bind
                  fun (r4 : Bool) =>
                  bif r4 then some (Sum.inr (Sum.inr (11 : Int)))
                  else some (Sum.inl (IntKind.i64.wrap (p1 + (1 : Int))))
          else some (Sum.inr (Sum.inl ())))
        (0 : Int)).bind
    fun (r5 : Unit ⊕ Int) => Sum.elim (fun (p6 : Unit) => some (0 : Int)) (fun (p7 : Int) => some p7) r5
theorem d_r44_Packs (N : Nat) : DenF Tryz.prog 36 ⟨[.l_RunPack], [.t_i64], [[none]], r44_Packs N⟩ :=
  den_of (N := N) (gam := [(81, ⟨[.t_Pack], [.t_bool], [[none]], r13_Right N⟩)]) (txt := []) (hints := [(36, [([0, 1, 0, 1], ⟨[0], [.reg 3 .t_i64 [none]], [(.ex 0, []), (.ret, [.reg 2 .t_i64 [none]])], []⟩), ([0, 0, 0, 0, 1, 0, 0, 1, 0, 1], ⟨[0, 3], [], [(.nrm, [.reg 48 .t_bool [none]])], []⟩), ([0, 1, 0, 0, 1, 0, 0, 1, 0, 1], ⟨[0, 3], [], [(.nrm, [.reg 64 .t_bool [none]])], []⟩)])]) mixed (.cons (d_r13_Right N) .nil) .nil Tryz.func36 (by kernel_rfl) (by kernel_rfl)

def r44_pack (N : Nat) (x0 : List RunPack) (x1 : Int) : Option Bool :=
 
  (whileF N
        (fun (p2 : Int) =>
          bif decide (p2 < (↑x0.length : Int)) then
            bif decide ((0 : Int) ≤ p2) && decide (p2 < (↑x0.length : Int)) then
              bif (x0.getD p2.toNat z_RunPack).Run == x1 then some (Sum.inr (Sum.inr true))
              else some (Sum.inl (IntKind.i64.wrap (p2 + (1 : Int))))
            else none
          else some (Sum.inr (Sum.inl ())))
        (0 : Int)).bind
    fun (r3 : Unit ⊕ Bool) => Sum.elim (fun (p4 : Unit) => some false) (fun (p5 : Bool) => some p5) r3
theorem d_r44_pack (N : Nat) : DenF Tryz.prog 37 ⟨[.l_RunPack, .t_i64], [.t_bool], [[none]], r44_pack N⟩ :=
  den_of (N := N) (gam := []) (txt := []) (hints := [(37, [([0, 1, 0, 1], ⟨[0, 1], [.reg 5 .t_i64 [none]], [(.ex 0, []), (.ret, [.reg 4 .t_bool [none]])], []⟩)])]) mixed .nil .nil Tryz.func37 (by kernel_rfl) (by kernel_rfl)

def r44_node (N : Nat) (x0 : List Pipe) (x1 : Int) : Option Bool :=
 
  (whileF N
        (fun (p2 : Int) =>
          bif decide (p2 < (↑x0.length : Int)) then
            bif decide ((0 : Int) ≤ p2) && decide (p2 < (↑x0.length : Int)) then
              bif (x0.getD p2.toNat z_Pipe).To == x1 then some (Sum.inr (Sum.inr true))
              else some (Sum.inl (IntKind.i64.wrap (p2 + (1 : Int))))
            else none
          else some (Sum.inr (Sum.inl ())))
        (0 : Int)).bind
    fun (r3 : Unit ⊕ Bool) => Sum.elim (fun (p4 : Unit) => some false) (fun (p5 : Bool) => some p5) r3
theorem d_r44_node (N : Nat) : DenF Tryz.prog 38 ⟨[.l_Pipe, .t_i64], [.t_bool], [[none]], r44_node N⟩ :=
  den_of (N := N) (gam := []) (txt := []) (hints := [(38, [([0, 1, 0, 1], ⟨[0, 1], [.reg 5 .t_i64 [none]], [(.ex 0, []), (.ret, [.reg 4 .t_bool [none]])], []⟩)])]) mixed .nil .nil Tryz.func38 (by kernel_rfl) (by kernel_rfl)
end Go.Proofs.YtkhkblihdabnoaaGreat
