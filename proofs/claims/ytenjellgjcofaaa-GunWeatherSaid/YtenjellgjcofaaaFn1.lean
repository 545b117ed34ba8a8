/- Written by a program (gen.py, asm.py): what each function computes, as a plain function, and that its text computes it. No condition. -/
import Derived.Test.YtenjellgjcofaaaSg
import Derived.Test.YtenjellgjcofaaaCmo
namespace Go.Proofs.Ytenjellgjcofaaa
open Go.Cm Go.Proofs
set_option linter.unusedVariables false
set_option maxRecDepth 100000

def l42_kind (N : Nat) : Option GunKind :=
 
  (some [Point.mk (-100 : Int) (300 : Int), Point.mk (-20 : Int) (50 : Int), z_Point]).bind fun (r0 : List Point) =>
    some (GunKind.mk (1 : Int) r0 (20000 : Int) (25000 : Int))
theorem d_l42_kind (N : Nat) : DenF Try.prog 33 ⟨[], [.t_GunKind], [[none, some 65, none, none]], l42_kind N⟩ :=
  den_of (N := N) (gam := []) (txt := []) (hints := []) mixed .nil .nil Try.func33 (by kernel_rfl) (by kernel_rfl)

def l42_off (N : Nat) : Option Gun :=
  some (Gun.mk (7 : Int) (3 : Int) (12 : Int) (1 : Int) (0 : Int) (1000 : Int) (600 : Int) (900 : Int))
theorem d_l42_off (N : Nat) : DenF Try.prog 34 ⟨[], [.t_Gun], [[none, none, none, none, none, none, none, none]], l42_off N⟩ :=
  den_of (N := N) (gam := []) (txt := []) (hints := []) mixed .nil .nil Try.func34 (by kernel_rfl) (by kernel_rfl)

def gun_moment_order (N : Nat) (x0 : moment) (x1 : Gun) : Option Bool :=
 
  (bif decide (x0.t ≥ x1.Since) then some (decide (x0.t ≤ (20000000 : Int))) else some false).bind fun (r2 : Bool) =>
    some r2
theorem d_gun_moment_order (N : Nat) : DenF Try.prog 55 ⟨[.t_moment, .t_Gun], [.t_bool], [[none]], gun_moment_order N⟩ :=
  den_of (N := N) (gam := []) (txt := []) (hints := [(55, [([0, 1], ⟨[], [], [(.nrm, [.reg 4 .t_bool [none]])]⟩)])]) mixed .nil .nil Try.func55 (by kernel_rfl) (by kernel_rfl)

def gun_Start (N : Nat) (x0 : Gun) (x1 : Int) : Option (Gun × Int) :=
 
  bif x0.State != (0 : Int) then some (z_Gun, (10 : Int))
  else
    (gun_moment_order N (moment.mk x1) x0).bind fun (r2 : Bool) =>
      bif !r2 then some (z_Gun, (11 : Int))
      else
        bif decide (x1 < IntKind.i64.wrap (x0.Since + x0.Off)) then some (z_Gun, (13 : Int))
        else some (Gun.mk x0.ID x0.Node x0.Run x0.Kind (1 : Int) x1 x0.On x0.Off, (0 : Int))
theorem d_gun_Start (N : Nat) : DenF Try.prog 14 ⟨[.t_Gun, .t_i64], [.t_Gun, .t_i64], [[none, none, none, none, none, none, none, none], [none]], gun_Start N⟩ :=
  den_of (N := N) (gam := [(55, ⟨[.t_moment, .t_Gun], [.t_bool], [[none]], gun_moment_order N⟩)]) (txt := [(42, Try.f42), (47, Try.f47), (48, Try.f48), (49, Try.f49), (50, Try.f50), (41, Try.f41)]) (hints := []) mixed (.cons (d_gun_moment_order N) .nil) (.cons Try.func42 (.cons Try.func47 (.cons Try.func48 (.cons Try.func49 (.cons Try.func50 (.cons Try.func41 .nil)))))) Try.func14 (by kernel_rfl) (by kernel_rfl)

def gun_Stop (N : Nat) (x0 : Gun) (x1 : Int) : Option (Gun × Int) :=
 
  bif x0.State != (1 : Int) then some (z_Gun, (10 : Int))
  else
    (gun_moment_order N (moment.mk x1) x0).bind fun (r2 : Bool) =>
      bif !r2 then some (z_Gun, (11 : Int))
      else
        bif decide (x1 < IntKind.i64.wrap (x0.Since + x0.On)) then some (z_Gun, (13 : Int))
        else some (Gun.mk x0.ID x0.Node x0.Run x0.Kind (0 : Int) x1 x0.On x0.Off, (0 : Int))
theorem d_gun_Stop (N : Nat) : DenF Try.prog 16 ⟨[.t_Gun, .t_i64], [.t_Gun, .t_i64], [[none, none, none, none, none, none, none, none], [none]], gun_Stop N⟩ :=
  den_of (N := N) (gam := [(55, ⟨[.t_moment, .t_Gun], [.t_bool], [[none]], gun_moment_order N⟩)]) (txt := [(42, Try.f42), (47, Try.f47), (48, Try.f48), (49, Try.f49), (50, Try.f50), (41, Try.f41)]) (hints := []) mixed (.cons (d_gun_moment_order N) .nil) (.cons Try.func42 (.cons Try.func47 (.cons Try.func48 (.cons Try.func49 (.cons Try.func50 (.cons Try.func41 .nil)))))) Try.func16 (by kernel_rfl) (by kernel_rfl)

def gun_Fail (N : Nat) (x0 : Gun) (x1 : Int) : Option (Gun × Int) :=
 
  (gun_moment_order N (moment.mk x1) x0).bind fun (r2 : Bool) =>
    bif !r2 then some (z_Gun, (11 : Int))
    else some (Gun.mk x0.ID x0.Node x0.Run x0.Kind (2 : Int) x1 x0.On x0.Off, (0 : Int))
theorem d_gun_Fail (N : Nat) : DenF Try.prog 18 ⟨[.t_Gun, .t_i64], [.t_Gun, .t_i64], [[none, none, none, none, none, none, none, none], [none]], gun_Fail N⟩ :=
  den_of (N := N) (gam := [(55, ⟨[.t_moment, .t_Gun], [.t_bool], [[none]], gun_moment_order N⟩)]) (txt := [(42, Try.f42), (47, Try.f47), (48, Try.f48), (49, Try.f49), (50, Try.f50), (41, Try.f41)]) (hints := []) mixed (.cons (d_gun_moment_order N) .nil) (.cons Try.func42 (.cons Try.func47 (.cons Try.func48 (.cons Try.func49 (.cons Try.func50 (.cons Try.func41 .nil)))))) Try.func18 (by kernel_rfl) (by kernel_rfl)

def gun_Repair (N : Nat) (x0 : Gun) (x1 : Int) : Option (Gun × Int) :=
 
  bif x0.State != (2 : Int) then some (z_Gun, (10 : Int))
  else
    (gun_moment_order N (moment.mk x1) x0).bind fun (r2 : Bool) =>
      bif !r2 then some (z_Gun, (11 : Int))
      else some (Gun.mk x0.ID x0.Node x0.Run x0.Kind (0 : Int) x1 x0.On x0.Off, (0 : Int))
theorem d_gun_Repair (N : Nat) : DenF Try.prog 20 ⟨[.t_Gun, .t_i64], [.t_Gun, .t_i64], [[none, none, none, none, none, none, none, none], [none]], gun_Repair N⟩ :=
  den_of (N := N) (gam := [(55, ⟨[.t_moment, .t_Gun], [.t_bool], [[none]], gun_moment_order N⟩)]) (txt := [(42, Try.f42), (47, Try.f47), (48, Try.f48), (49, Try.f49), (50, Try.f50), (41, Try.f41)]) (hints := []) mixed (.cons (d_gun_moment_order N) .nil) (.cons Try.func42 (.cons Try.func47 (.cons Try.func48 (.cons Try.func49 (.cons Try.func50 (.cons Try.func41 .nil)))))) Try.func20 (by kernel_rfl) (by kernel_rfl)

def fixed_right (N : Nat) (x0 : List Point) : Option Bool :=
 
  (bif decide ((↑x0.length : Int) < (1 : Int)) then some true else some (decide ((↑x0.length : Int) > (64 : Int)))).bind
    fun (r1 : Bool) =>
    bif r1 then some false
    else
      (whileF N
            (fun (p2 : Int) =>
              bif decide (p2 < (↑x0.length : Int)) then
                bif decide ((0 : Int) ≤ p2) && decide (p2 < (↑x0.length : Int)) then
                  (bif decide ((x0.getD p2.toNat z_Point).X < (-1000000000 : Int)) then some true
                      else
                        bif decide ((x0.getD p2.toNat z_Point).X > (1000000000 : Int)) then some true
                        else
                          bif decide ((x0.getD p2.toNat z_Point).Y < (-1000000000 : Int)) then some true
                          else some (decide ((x0.getD p2.toNat z_Point).Y > (1000000000 : Int)))).bind
                    fun (r3 : Bool) =>
                    bif r3 then some (Sum.inr (Sum.inr false))
                    else
                      (bif decide (p2 > (0 : Int)) then
                            bif
                                decide ((0 : Int) ≤ IntKind.i64.wrap (p2 - (1 : Int))) &&
                                  decide (IntKind.i64.wrap (p2 - (1 : Int)) < (↑x0.length : Int)) then
                              some
                                (decide
                                  ((x0.getD p2.toNat z_Point).X ≤
                                    (x0.getD (IntKind.i64.wrap (p2 - (1 : Int))).toNat z_Point).X))
                            else none
                          else some false).bind
                        fun (r4 : Bool) =>
                        bif r4 then some (Sum.inr (Sum.inr false))
                        else some (Sum.inl (IntKind.i64.wrap (p2 + (1 : Int))))
                else none
              else some (Sum.inr (Sum.inl ())))
            (0 : Int)).bind
        fun (r5 : Unit ⊕ Bool) => Sum.elim (fun (p6 : Unit) => some true) (fun (p7 : Bool) => some p7) r5
theorem d_fixed_right (N : Nat) : DenF Try.prog 51 ⟨[.l_Point], [.t_bool], [[none]], fixed_right N⟩ :=
  den_of (N := N) (gam := []) (txt := []) (hints := [(51, [([0, 0, 1], ⟨[0], [], [(.nrm, [.reg 12 .t_bool [none]])]⟩), ([0, 1, 0, 1, 1], ⟨[0, 13, 14], [.reg 15 .t_i64 [none]], [(.ex 0, []), (.ret, [.reg 2 .t_bool [none]])]⟩), ([0, 0, 1, 0, 0, 1, 1, 0, 0, 1, 0, 1, 1], ⟨[0, 3, 4, 13, 14, 15], [], [(.nrm, [.reg 37 .t_bool [none]])]⟩), ([0, 1, 1, 0, 0, 1, 1, 0, 0, 1, 0, 1, 1], ⟨[0, 13, 14, 15], [], [(.nrm, [.reg 50 .t_bool [none]])]⟩)])]) mixed .nil .nil Try.func51 (by kernel_rfl) (by kernel_rfl)

def fixed_floorDiv (N : Nat) (x0 x1 : Int) : Option Int :=
 
  bif x1 != (0 : Int) then
    bif x1 != (0 : Int) then
      (bif decide (x0.tmod x1 < (0 : Int)) then some (IntKind.i64.wrap (IntKind.i64.wrap (x0.tdiv x1) - (1 : Int)))
          else some (IntKind.i64.wrap (x0.tdiv x1))).bind
        fun (r2 : Int) => some r2
    else none
  else none
theorem d_fixed_floorDiv (N : Nat) : DenF Try.prog 52 ⟨[.t_i64, .t_i64], [.t_i64], [[none]], fixed_floorDiv N⟩ :=
  den_of (N := N) (gam := []) (txt := []) (hints := [(52, [([1, 0, 1, 1], ⟨[], [], [(.nrm, [.reg 5 .t_i64 [none]])]⟩)])]) mixed .nil .nil Try.func52 (by kernel_rfl) (by kernel_rfl)

def fixed_At (N : Nat) (x0 : List Point) (x1 : Int) : Option (Int × Int) :=
 
  (fixed_right N x0).bind fun (r2 : Bool) =>
    bif !r2 then some ((0 : Int), (1 : Int))
    else
      bif true && decide ((0 : Int) < (↑x0.length : Int)) then
        bif
            decide ((0 : Int) ≤ IntKind.i64.wrap ((↑x0.length : Int) - (1 : Int))) &&
              decide (IntKind.i64.wrap ((↑x0.length : Int) - (1 : Int)) < (↑x0.length : Int)) then
          bif decide (x1 ≤ (x0.getD 0 z_Point).X) then some ((x0.getD 0 z_Point).Y, (0 : Int))
          else
            bif decide (x1 ≥ (x0.getD (IntKind.i64.wrap ((↑x0.length : Int) - (1 : Int))).toNat z_Point).X) then
              some ((x0.getD (IntKind.i64.wrap ((↑x0.length : Int) - (1 : Int))).toNat z_Point).Y, (0 : Int))
            else
              (whileF N
                    (fun (p3 : Int) =>
                      bif
                          decide ((0 : Int) ≤ IntKind.i64.wrap (p3 + (1 : Int))) &&
                            decide (IntKind.i64.wrap (p3 + (1 : Int)) < (↑x0.length : Int)) then
                        bif decide ((x0.getD (IntKind.i64.wrap (p3 + (1 : Int))).toNat z_Point).X ≤ x1) then
                          some (Sum.inl (IntKind.i64.wrap (p3 + (1 : Int))))
                        else some (Sum.inr p3)
                      else none)
                    (0 : Int)).bind
                fun (r4 : Int) =>
                bif decide ((0 : Int) ≤ r4) && decide (r4 < (↑x0.length : Int)) then
                  bif
                      decide ((0 : Int) ≤ IntKind.i64.wrap (r4 + (1 : Int))) &&
                        decide (IntKind.i64.wrap (r4 + (1 : Int)) < (↑x0.length : Int)) then
                    (fixed_floorDiv N
                          (IntKind.i64.wrap
                            (IntKind.i64.wrap
                                ((x0.getD (IntKind.i64.wrap (r4 + (1 : Int))).toNat z_Point).Y -
                                  (x0.getD r4.toNat z_Point).Y) *
                              IntKind.i64.wrap (x1 - (x0.getD r4.toNat z_Point).X)))
                          (IntKind.i64.wrap
                            ((x0.getD (IntKind.i64.wrap (r4 + (1 : Int))).toNat z_Point).X -
                              (x0.getD r4.toNat z_Point).X))).bind
                      fun (r5 : Int) => some (IntKind.i64.wrap ((x0.getD r4.toNat z_Point).Y + r5), (0 : Int))
                  else none
                else none
        else none
      else none
theorem d_fixed_At (N : Nat) : DenF Try.prog 44 ⟨[.l_Point, .t_i64], [.t_i64, .t_i64], [[none], [none]], fixed_At N⟩ :=
  den_of (N := N) (gam := [(51, ⟨[.l_Point], [.t_bool], [[none]], fixed_right N⟩), (52, ⟨[.t_i64, .t_i64], [.t_i64], [[none]], fixed_floorDiv N⟩)]) (txt := []) (hints := [(44, [([0, 0, 1, 1, 1, 1, 1, 1], ⟨[0, 1], [.reg 8 .t_i64 [none]], [(.ex 0, [.reg 8 .t_i64 [none]])]⟩)])]) mixed (.cons (d_fixed_right N) (.cons (d_fixed_floorDiv N) .nil)) .nil Try.func44 (by kernel_rfl) (by kernel_rfl)

def gun_Output (N : Nat) (x0 : GunKind) (x1 : Int) : Option Int :=
  (fixed_At N x0.Output x1).bind fun (r2 : Int × Int) => some r2.fst
theorem d_gun_Output (N : Nat) : DenF Try.prog 23 ⟨[.t_GunKind, .t_i64], [.t_i64], [[none]], gun_Output N⟩ :=
  den_of (N := N) (gam := [(44, ⟨[.l_Point, .t_i64], [.t_i64, .t_i64], [[none], [none]], fixed_At N⟩)]) (txt := []) (hints := []) mixed (.cons (d_fixed_At N) .nil) .nil Try.func23 (by kernel_rfl) (by kernel_rfl)

def gun_kind (N : Nat) (x0 : List GunKind) (x1 : Int) : Option GunKind :=
 
  (whileF N
        (fun (p2 : Int × GunKind) =>
          bif decide (p2.fst < (↑x0.length : Int)) then
            bif decide ((0 : Int) ≤ p2.fst) && decide (p2.fst < (↑x0.length : Int)) then
              bif (x0.getD (Int.toNat p2.fst) z_GunKind).ID == x1 then
                some (Sum.inr (Sum.inr (x0.getD (Int.toNat p2.fst) z_GunKind)))
              else some (Sum.inl (IntKind.i64.wrap (p2.fst + (1 : Int)), p2.snd))
            else none
          else some (Sum.inr (Sum.inl p2.snd)))
        ((0 : Int), z_GunKind)).bind
    fun (r3 : GunKind ⊕ GunKind) => Sum.elim (fun (p4 : GunKind) => some z_GunKind) (fun (p5 : GunKind) => some p5) r3
theorem d_gun_kind (N : Nat) : DenF Try.prog 46 ⟨[.l_GunKind, .t_i64], [.t_GunKind], [[none, none, none, none]], gun_kind N⟩ :=
  den_of (N := N) (gam := []) (txt := []) (hints := [(46, [([0, 1, 0, 1], ⟨[1, 4, 7, 8], [.reg 9 .t_i64 [none], .var 4 .t_GunKind [none, none, none, none]], [(.ex 0, [.var 4 .t_GunKind [none, none, none, none]]), (.ret, [.var 4 .t_GunKind [none, none, none, none]])]⟩)])]) mixed .nil .nil Try.func46 (by kernel_rfl) (by kernel_rfl)

def gun_Draws (N : Nat) (x0 : List GunKind) (x1 : List Gun) (x2 : Int) : Option ((List Draw)) :=
 
  (whileF N
        (fun (p3 : List Draw × Int) =>
          bif decide (p3.snd < (↑x1.length : Int)) then
            bif decide ((0 : Int) ≤ p3.snd) && decide (p3.snd < (↑x1.length : Int)) then
              (bif (x1.getD (Int.toNat p3.snd) z_Gun).State == (1 : Int) then
                    (gun_kind N x0 (x1.getD (Int.toNat p3.snd) z_Gun).Kind).bind fun (r4 : GunKind) =>
                      (gun_Output N r4 x2).bind fun (r5 : Int) =>
                        (some [Draw.mk (x1.getD (Int.toNat p3.snd) z_Gun).Node r5]).bind fun (r6 : List Draw) =>
                          bif decide ((List.length p3.fst + r6.length) * 16 ≤ 140737488355328) then
                            (some (p3.fst ++ r6)).bind fun (r7 : List Draw) => some r7
                          else none
                  else some p3.fst).bind
                fun (r8 : List Draw) => some (Sum.inl (r8, IntKind.i64.wrap (p3.snd + (1 : Int))))
            else none
          else some (Sum.inr p3.fst))
        ([], (0 : Int))).bind
    fun (r9 : List Draw) => some r9
theorem d_gun_Draws (N : Nat) : DenF Try.prog 26 ⟨[.l_GunKind, .l_Gun, .t_i64], [.l_Draw], [[some 53]], gun_Draws N⟩ :=
  den_of (N := N) (gam := [(46, ⟨[.l_GunKind, .t_i64], [.t_GunKind], [[none, none, none, none]], gun_kind N⟩), (23, ⟨[.t_GunKind, .t_i64], [.t_i64], [[none]], gun_Output N⟩)]) (txt := []) (hints := [(26, [([0, 1, 0, 1, 1], ⟨[0, 2, 10, 11], [.reg 7 .l_Draw [some 53], .reg 12 .t_i64 [none]], [(.ex 0, [.reg 7 .l_Draw [some 53]])]⟩), ([1, 1, 0, 0, 1, 1, 0, 0, 1, 0, 1, 1], ⟨[0, 2, 10, 11, 12], [], [(.nrm, [.reg 7 .l_Draw [some 53]])]⟩)])]) mixed (.cons (d_gun_kind N) (.cons (d_gun_Output N) .nil)) .nil Try.func26 (by kernel_rfl) (by kernel_rfl)

def gun_Needs (N : Nat) (x0 : List GunKind) (x1 : List Gun) : Option ((List Draw)) :=
 
  (whileF N
        (fun (p2 : List Draw × Int) =>
          bif decide (p2.snd < (↑x1.length : Int)) then
            bif decide ((0 : Int) ≤ p2.snd) && decide (p2.snd < (↑x1.length : Int)) then
              (bif (x1.getD (Int.toNat p2.snd) z_Gun).State == (1 : Int) then
                    (gun_kind N x0 (x1.getD (Int.toNat p2.snd) z_Gun).Kind).bind fun (r3 : GunKind) =>
                      (some [Draw.mk (x1.getD (Int.toNat p2.snd) z_Gun).Node r3.Pressure]).bind fun (r4 : List Draw) =>
                        bif decide ((List.length p2.fst + r4.length) * 16 ≤ 140737488355328) then
                          (some (p2.fst ++ r4)).bind fun (r5 : List Draw) => some r5
                        else none
                  else some p2.fst).bind
                fun (r6 : List Draw) => some (Sum.inl (r6, IntKind.i64.wrap (p2.snd + (1 : Int))))
            else none
          else some (Sum.inr p2.fst))
        ([], (0 : Int))).bind
    fun (r7 : List Draw) => some r7
theorem d_gun_Needs (N : Nat) : DenF Try.prog 28 ⟨[.l_GunKind, .l_Gun], [.l_Draw], [[some 53]], gun_Needs N⟩ :=
  den_of (N := N) (gam := [(46, ⟨[.l_GunKind, .t_i64], [.t_GunKind], [[none, none, none, none]], gun_kind N⟩)]) (txt := []) (hints := [(28, [([0, 1, 0, 1, 1], ⟨[0, 8, 9], [.reg 5 .l_Draw [some 53], .reg 10 .t_i64 [none]], [(.ex 0, [.reg 5 .l_Draw [some 53]])]⟩), ([1, 1, 0, 0, 1, 1, 0, 0, 1, 0, 1, 1], ⟨[0, 8, 9, 10], [], [(.nrm, [.reg 5 .l_Draw [some 53]])]⟩)])]) mixed (.cons (d_gun_kind N) .nil) .nil Try.func28 (by kernel_rfl) (by kernel_rfl)
end Go.Proofs.Ytenjellgjcofaaa
