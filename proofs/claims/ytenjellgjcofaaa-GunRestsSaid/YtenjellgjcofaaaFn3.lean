/- Written by a program (gen.py, asm.py): what each function computes, as a plain function, and that its text computes it. No condition. -/
import Derived.Test.YtenjellgjcofaaaFn2
import Derived.Test.YtenjellgjcofaaaCmo
namespace Go.Proofs.Ytenjellgjcofaaa
open Go.Cm Go.Proofs
set_option linter.unusedVariables false
set_option maxRecDepth 100000

def r42_find (N : Nat) (x0 : List GunKind) (x1 : Int) : Option (GunKind × Bool) :=
 
  (whileF N
        (fun (p2 : Int × GunKind) =>
          bif decide (p2.fst < (↑x0.length : Int)) then
            bif decide ((0 : Int) ≤ p2.fst) && decide (p2.fst < (↑x0.length : Int)) then
              bif (x0.getD (Int.toNat p2.fst) z_GunKind).ID == x1 then
                bif decide ((0 : Int) ≤ p2.fst) && decide (p2.fst < (↑x0.length : Int)) then
                  some (Sum.inr (Sum.inr (true, x0.getD (Int.toNat p2.fst) z_GunKind)))
                else none
              else some (Sum.inl (IntKind.i64.wrap (p2.fst + (1 : Int)), p2.snd))
            else none
          else some (Sum.inr (Sum.inl p2.snd)))
        ((0 : Int), z_GunKind)).bind
    fun (r3 : GunKind ⊕ Bool × GunKind) =>
    Sum.elim (fun (p4 : GunKind) => some (z_GunKind, false)) (fun (p5 : Bool × GunKind) => some (p5.snd, p5.fst)) r3
theorem d_r42_find (N : Nat) : DenF Try.prog 40 ⟨[.l_GunKind, .t_i64], [.t_GunKind, .t_bool], [[none, none, none, none], [none]], r42_find N⟩ :=
  den_of (N := N) (gam := []) (txt := []) (hints := [(40, [([0, 1, 0, 1], ⟨[0, 1, 4], [.reg 6 .t_i64 [none], .var 4 .t_GunKind [none, none, none, none]], [(.ex 0, [.var 4 .t_GunKind [none, none, none, none]]), (.ret, [.reg 5 .t_bool [none], .var 4 .t_GunKind [none, none, none, none]])]⟩)])]) mixed .nil .nil Try.func40 (by kernel_rfl) (by kernel_rfl)

def r42_Right (N : Nat) (x0 : List GunKind) (x1 : List Gun) : Option Int :=
 
  (bif decide ((↑x0.length : Int) > (64 : Int)) then some true
      else some (decide ((↑x1.length : Int) > (64 : Int)))).bind
    fun (r2 : Bool) =>
    bif r2 then some (4 : Int)
    else
      (whileF N
            (fun (p3 : Int) =>
              bif decide (p3 < (↑x0.length : Int)) then
                (r42_kind N x0 p3).bind fun (r4 : Int) =>
                  bif r4 != (0 : Int) then some (Sum.inr (Sum.inr r4))
                  else some (Sum.inl (IntKind.i64.wrap (p3 + (1 : Int))))
              else some (Sum.inr (Sum.inl ())))
            (0 : Int)).bind
        fun (r5 : Unit ⊕ Int) =>
        Sum.elim
          (fun (p6 : Unit) =>
            (whileF N
                  (fun (p7 : Int) =>
                    bif decide (p7 < (↑x1.length : Int)) then
                      bif decide ((0 : Int) ≤ p7) && decide (p7 < (↑x1.length : Int)) then
                        ((r42_id N (x1.getD p7.toNat z_Gun).ID).bind fun (r8 : Bool) =>
                              bif !r8 then some true
                              else
                                (r42_id N (x1.getD p7.toNat z_Gun).Node).bind fun (r9 : Bool) =>
                                  bif !r9 then some true
                                  else
                                    (r42_id N (x1.getD p7.toNat z_Gun).Run).bind fun (r10 : Bool) =>
                                      bif !r10 then some true
                                      else
                                        bif decide ((x1.getD p7.toNat z_Gun).State < (0 : Int)) then some true
                                        else
                                          bif decide ((x1.getD p7.toNat z_Gun).State > (2 : Int)) then some true
                                          else
                                            bif decide ((x1.getD p7.toNat z_Gun).Since < (0 : Int)) then some true
                                            else
                                              bif decide ((x1.getD p7.toNat z_Gun).Since > (20000000 : Int)) then
                                                some true
                                              else
                                                (r42_day N (x1.getD p7.toNat z_Gun).On).bind fun (r11 : Bool) =>
                                                  bif !r11 then some true
                                                  else
                                                    (r42_day N (x1.getD p7.toNat z_Gun).Off).bind fun (r12 : Bool) =>
                                                      some !r12).bind
                          fun (r13 : Bool) =>
                          bif r13 then some (Sum.inr (Sum.inr (2 : Int)))
                          else
                            (whileF N
                                  (fun (p14 : Int) =>
                                    bif decide (p14 < p7) then
                                      bif decide ((0 : Int) ≤ p14) && decide (p14 < (↑x1.length : Int)) then
                                        bif (x1.getD p14.toNat z_Gun).ID == (x1.getD p7.toNat z_Gun).ID then
                                          some (Sum.inr (Sum.inr (7 : Int)))
                                        else some (Sum.inl (IntKind.i64.wrap (p14 + (1 : Int))))
                                      else none
                                    else some (Sum.inr (Sum.inl ())))
                                  (0 : Int)).bind
                              fun (r15 : Unit ⊕ Int) =>
                              Sum.elim
                                (fun (p16 : Unit) =>
                                  (r42_find N x0 (x1.getD p7.toNat z_Gun).Kind).bind fun (r17 : GunKind × Bool) =>
                                    bif !r17.snd then some (Sum.inr (Sum.inr (8 : Int)))
                                    else some (Sum.inl (IntKind.i64.wrap (p7 + (1 : Int)))))
                                (fun (p18 : Int) => some (Sum.inr (Sum.inr p18))) r15
                      else none
                    else some (Sum.inr (Sum.inl ())))
                  (0 : Int)).bind
              fun (r19 : Unit ⊕ Int) => Sum.elim (fun (p20 : Unit) => some (0 : Int)) (fun (p21 : Int) => some p21) r19)
          (fun (p22 : Int) => some p22) r5
theorem d_r42_Right (N : Nat) : DenF Try.prog 12 ⟨[.l_GunKind, .l_Gun], [.t_i64], [[none]], r42_Right N⟩ :=
  den_of (N := N) (gam := [(37, ⟨[.l_GunKind, .t_i64], [.t_i64], [[none]], r42_kind N⟩), (38, ⟨[.t_i64], [.t_bool], [[none]], r42_id N⟩), (39, ⟨[.t_i64], [.t_bool], [[none]], r42_day N⟩), (40, ⟨[.l_GunKind, .t_i64], [.t_GunKind, .t_bool], [[none, none, none, none], [none]], r42_find N⟩)]) (txt := []) (hints := [(12, [([0, 0, 1], ⟨[0, 1], [], [(.nrm, [.reg 19 .t_bool [none]])]⟩), ([0, 1, 0, 1, 1], ⟨[0, 1], [.reg 5 .t_i64 [none]], [(.ex 0, []), (.ret, [.reg 4 .t_i64 [none]])]⟩), ([0, 1, 0, 1, 1, 1], ⟨[0, 1], [.reg 7 .t_i64 [none]], [(.ex 2, []), (.ret, [.reg 4 .t_i64 [none]])]⟩), ([0, 0, 1, 0, 0, 1, 0, 0, 1, 0, 1, 1, 1], ⟨[0, 1, 7, 8], [], [(.nrm, [.reg 89 .t_bool [none]])]⟩), ([0, 1, 0, 1, 1, 0, 0, 1, 0, 0, 1, 0, 1, 1, 1], ⟨[0, 1, 7, 8], [.reg 9 .t_i64 [none]], [(.ex 4, []), (.ret, [.reg 4 .t_i64 [none]])]⟩)])]) mixed (.cons (d_r42_kind N) (.cons (d_r42_id N) (.cons (d_r42_day N) (.cons (d_r42_find N) .nil)))) .nil Try.func12 (by kernel_rfl) (by kernel_rfl)

def l42_GunRights (N : Nat) (x0 : Park) : Option Bool :=
 
  (l42_alive N).bind fun (r1 : Bool) =>
    bif !r1 then some false
    else
      ((l42_few N x0).bind fun (r2 : Bool) =>
            bif !r2 then some true
            else
              (gun_Right N x0.Kinds x0.Guns).bind fun (r3 : Int) =>
                (r42_Right N x0.Kinds x0.Guns).bind fun (r4 : Int) => some (r3 == r4)).bind
        fun (r5 : Bool) => some r5
theorem d_l42_GunRights (N : Nat) : DenF Try.prog 3 ⟨[.t_Park], [.t_bool], [[none]], l42_GunRights N⟩ :=
  den_of (N := N) (gam := [(9, ⟨[], [.t_bool], [[none]], l42_alive N⟩), (10, ⟨[.t_Park], [.t_bool], [[none]], l42_few N⟩), (11, ⟨[.l_GunKind, .l_Gun], [.t_i64], [[none]], gun_Right N⟩), (12, ⟨[.l_GunKind, .l_Gun], [.t_i64], [[none]], r42_Right N⟩)]) (txt := []) (hints := [(3, [([0, 1, 1], ⟨[], [], [(.nrm, [.reg 2 .t_bool [none]])]⟩)])]) mixed (.cons (d_l42_alive N) (.cons (d_l42_few N) (.cons (d_gun_Right N) (.cons (d_r42_Right N) .nil)))) .nil Try.func3 (by kernel_rfl) (by kernel_rfl)

def l42_single (N : Nat) (x0 : Gun) : Option Bool :=
 
  ((some [z_Point]).bind fun (r1 : List Point) =>
        (some [GunKind.mk (1 : Int) r1 (0 : Int) (0 : Int)]).bind fun (r2 : List GunKind) =>
          (some [Gun.mk x0.ID x0.Node x0.Run (1 : Int) x0.State x0.Since x0.On x0.Off]).bind fun (r3 : List Gun) =>
            (r42_Right N r2 r3).bind fun (r4 : Int) =>
              bif r4 == (0 : Int) then
                bif decide (x0.Kind ≥ (1 : Int)) then some (decide (x0.Kind ≤ (9999 : Int))) else some false
              else some false).bind
    fun (r5 : Bool) => some r5
theorem d_l42_single (N : Nat) : DenF Try.prog 13 ⟨[.t_Gun], [.t_bool], [[none]], l42_single N⟩ :=
  den_of (N := N) (gam := [(12, ⟨[.l_GunKind, .l_Gun], [.t_i64], [[none]], r42_Right N⟩)]) (txt := []) (hints := [(13, [([0, 1], ⟨[], [], [(.nrm, [.reg 2 .t_bool [none]])]⟩)])]) mixed (.cons (d_r42_Right N) .nil) .nil Try.func13 (by kernel_rfl) (by kernel_rfl)

def r42_become (N : Nat) (x0 : Gun) (x1 x2 x3 : Int) : Option (Gun × Int) :=
 
  (bif decide (x2 < x0.Since) then some true else some (decide (x2 > (20000000 : Int)))).bind fun (r4 : Bool) =>
    bif r4 then some (z_Gun, (11 : Int))
    else
      bif decide (x2 < IntKind.i64.wrap (x0.Since + x3)) then some (z_Gun, (13 : Int))
      else some (Gun.mk x0.ID x0.Node x0.Run x0.Kind x1 x2 x0.On x0.Off, (0 : Int))
theorem d_r42_become (N : Nat) : DenF Try.prog 43 ⟨[.t_Gun, .t_i64, .t_i64, .t_i64], [.t_Gun, .t_i64], [[none, none, none, none, none, none, none, none], [none]], r42_become N⟩ :=
  den_of (N := N) (gam := []) (txt := []) (hints := [(43, [([0, 0, 1], ⟨[1, 2, 3, 4, 8], [], [(.nrm, [.reg 17 .t_bool [none]])]⟩)])]) mixed .nil .nil Try.func43 (by kernel_rfl) (by kernel_rfl)

def r42_Start (N : Nat) (x0 : Gun) (x1 : Int) : Option (Gun × Int) :=
 
  bif x0.State != (0 : Int) then some (z_Gun, (10 : Int))
  else (r42_become N x0 (1 : Int) x1 x0.Off).bind fun (r2 : Gun × Int) => some r2
theorem d_r42_Start (N : Nat) : DenF Try.prog 15 ⟨[.t_Gun, .t_i64], [.t_Gun, .t_i64], [[none, none, none, none, none, none, none, none], [none]], r42_Start N⟩ :=
  den_of (N := N) (gam := [(43, ⟨[.t_Gun, .t_i64, .t_i64, .t_i64], [.t_Gun, .t_i64], [[none, none, none, none, none, none, none, none], [none]], r42_become N⟩)]) (txt := []) (hints := []) mixed (.cons (d_r42_become N) .nil) .nil Try.func15 (by kernel_rfl) (by kernel_rfl)

def r42_Stop (N : Nat) (x0 : Gun) (x1 : Int) : Option (Gun × Int) :=
 
  bif x0.State != (1 : Int) then some (z_Gun, (10 : Int))
  else (r42_become N x0 (0 : Int) x1 x0.On).bind fun (r2 : Gun × Int) => some r2
theorem d_r42_Stop (N : Nat) : DenF Try.prog 17 ⟨[.t_Gun, .t_i64], [.t_Gun, .t_i64], [[none, none, none, none, none, none, none, none], [none]], r42_Stop N⟩ :=
  den_of (N := N) (gam := [(43, ⟨[.t_Gun, .t_i64, .t_i64, .t_i64], [.t_Gun, .t_i64], [[none, none, none, none, none, none, none, none], [none]], r42_become N⟩)]) (txt := []) (hints := []) mixed (.cons (d_r42_become N) .nil) .nil Try.func17 (by kernel_rfl) (by kernel_rfl)

def r42_Fail (N : Nat) (x0 : Gun) (x1 : Int) : Option (Gun × Int) :=
  (r42_become N x0 (2 : Int) x1 (0 : Int)).bind fun (r2 : Gun × Int) => some r2
theorem d_r42_Fail (N : Nat) : DenF Try.prog 19 ⟨[.t_Gun, .t_i64], [.t_Gun, .t_i64], [[none, none, none, none, none, none, none, none], [none]], r42_Fail N⟩ :=
  den_of (N := N) (gam := [(43, ⟨[.t_Gun, .t_i64, .t_i64, .t_i64], [.t_Gun, .t_i64], [[none, none, none, none, none, none, none, none], [none]], r42_become N⟩)]) (txt := []) (hints := []) mixed (.cons (d_r42_become N) .nil) .nil Try.func19 (by kernel_rfl) (by kernel_rfl)

def r42_Repair (N : Nat) (x0 : Gun) (x1 : Int) : Option (Gun × Int) :=
 
  bif x0.State != (2 : Int) then some (z_Gun, (10 : Int))
  else (r42_become N x0 (0 : Int) x1 (0 : Int)).bind fun (r2 : Gun × Int) => some r2
theorem d_r42_Repair (N : Nat) : DenF Try.prog 21 ⟨[.t_Gun, .t_i64], [.t_Gun, .t_i64], [[none, none, none, none, none, none, none, none], [none]], r42_Repair N⟩ :=
  den_of (N := N) (gam := [(43, ⟨[.t_Gun, .t_i64, .t_i64, .t_i64], [.t_Gun, .t_i64], [[none, none, none, none, none, none, none, none], [none]], r42_become N⟩)]) (txt := []) (hints := []) mixed (.cons (d_r42_become N) .nil) .nil Try.func21 (by kernel_rfl) (by kernel_rfl)

def l42_GunSwitches (N : Nat) (x0 : Gun) (x1 : Int) : Option Bool :=
 
  (l42_alive N).bind fun (r2 : Bool) =>
    bif !r2 then some false
    else
      (l42_single N x0).bind fun (r3 : Bool) =>
        bif !r3 then some true
        else
          (gun_Start N x0 x1).bind fun (r4 : Gun × Int) =>
            (r42_Start N x0 x1).bind fun (r5 : Gun × Int) =>
              (gun_Stop N x0 x1).bind fun (r6 : Gun × Int) =>
                (r42_Stop N x0 x1).bind fun (r7 : Gun × Int) =>
                  (gun_Fail N x0 x1).bind fun (r8 : Gun × Int) =>
                    (r42_Fail N x0 x1).bind fun (r9 : Gun × Int) =>
                      (gun_Repair N x0 x1).bind fun (r10 : Gun × Int) =>
                        (r42_Repair N x0 x1).bind fun (r11 : Gun × Int) =>
                          (bif
                                  r4.fst.ID == r5.fst.ID &&
                                    (r4.fst.Node == r5.fst.Node &&
                                      (r4.fst.Run == r5.fst.Run &&
                                        (r4.fst.Kind == r5.fst.Kind &&
                                          (r4.fst.State == r5.fst.State &&
                                            (r4.fst.Since == r5.fst.Since &&
                                              (r4.fst.On == r5.fst.On && (r4.fst.Off == r5.fst.Off && true))))))) then
                                bif r4.snd == r5.snd then
                                  bif
                                      r6.fst.ID == r7.fst.ID &&
                                        (r6.fst.Node == r7.fst.Node &&
                                          (r6.fst.Run == r7.fst.Run &&
                                            (r6.fst.Kind == r7.fst.Kind &&
                                              (r6.fst.State == r7.fst.State &&
                                                (r6.fst.Since == r7.fst.Since &&
                                                  (r6.fst.On == r7.fst.On &&
                                                    (r6.fst.Off == r7.fst.Off && true))))))) then
                                    bif r6.snd == r7.snd then
                                      bif
                                          r8.fst.ID == r9.fst.ID &&
                                            (r8.fst.Node == r9.fst.Node &&
                                              (r8.fst.Run == r9.fst.Run &&
                                                (r8.fst.Kind == r9.fst.Kind &&
                                                  (r8.fst.State == r9.fst.State &&
                                                    (r8.fst.Since == r9.fst.Since &&
                                                      (r8.fst.On == r9.fst.On &&
                                                        (r8.fst.Off == r9.fst.Off && true))))))) then
                                        bif r8.snd == r9.snd then
                                          bif
                                              r10.fst.ID == r11.fst.ID &&
                                                (r10.fst.Node == r11.fst.Node &&
                                                  (r10.fst.Run == r11.fst.Run &&
                                                    (r10.fst.Kind == r11.fst.Kind &&
                                                      (r10.fst.State == r11.fst.State &&
                                                        (r10.fst.Since == r11.fst.Since &&
                                                          (r10.fst.On == r11.fst.On &&
                                                            (r10.fst.Off == r11.fst.Off && true))))))) then
                                            some (r10.snd == r11.snd)
                                          else some false
                                        else some false
                                      else some false
                                    else some false
                                  else some false
                                else some false
                              else some false).bind
                            fun (r12 : Bool) => some r12
theorem d_l42_GunSwitches (N : Nat) : DenF Try.prog 4 ⟨[.t_Gun, .t_i64], [.t_bool], [[none]], l42_GunSwitches N⟩ :=
  den_of (N := N) (gam := [(9, ⟨[], [.t_bool], [[none]], l42_alive N⟩), (13, ⟨[.t_Gun], [.t_bool], [[none]], l42_single N⟩), (14, ⟨[.t_Gun, .t_i64], [.t_Gun, .t_i64], [[none, none, none, none, none, none, none, none], [none]], gun_Start N⟩), (15, ⟨[.t_Gun, .t_i64], [.t_Gun, .t_i64], [[none, none, none, none, none, none, none, none], [none]], r42_Start N⟩), (16, ⟨[.t_Gun, .t_i64], [.t_Gun, .t_i64], [[none, none, none, none, none, none, none, none], [none]], gun_Stop N⟩), (17, ⟨[.t_Gun, .t_i64], [.t_Gun, .t_i64], [[none, none, none, none, none, none, none, none], [none]], r42_Stop N⟩), (18, ⟨[.t_Gun, .t_i64], [.t_Gun, .t_i64], [[none, none, none, none, none, none, none, none], [none]], gun_Fail N⟩), (19, ⟨[.t_Gun, .t_i64], [.t_Gun, .t_i64], [[none, none, none, none, none, none, none, none], [none]], r42_Fail N⟩), (20, ⟨[.t_Gun, .t_i64], [.t_Gun, .t_i64], [[none, none, none, none, none, none, none, none], [none]], gun_Repair N⟩), (21, ⟨[.t_Gun, .t_i64], [.t_Gun, .t_i64], [[none, none, none, none, none, none, none, none], [none]], r42_Repair N⟩)]) (txt := []) (hints := [(4, [([0, 1, 1, 1, 1, 1, 1, 1, 1, 1, 1, 1], ⟨[], [], [(.nrm, [.reg 4 .t_bool [none]])]⟩)])]) mixed (.cons (d_l42_alive N) (.cons (d_l42_single N) (.cons (d_gun_Start N) (.cons (d_r42_Start N) (.cons (d_gun_Stop N) (.cons (d_r42_Stop N) (.cons (d_gun_Fail N) (.cons (d_r42_Fail N) (.cons (d_gun_Repair N) (.cons (d_r42_Repair N) .nil)))))))))) .nil Try.func4 (by kernel_rfl) (by kernel_rfl)

def l42_right (N : Nat) (x0 : Park) : Option Bool :=
 
  ((l42_few N x0).bind fun (r1 : Bool) =>
        bif r1 then (r42_Right N x0.Kinds x0.Guns).bind fun (r2 : Int) => some (r2 == (0 : Int)) else some false).bind
    fun (r3 : Bool) => some r3
theorem d_l42_right (N : Nat) : DenF Try.prog 22 ⟨[.t_Park], [.t_bool], [[none]], l42_right N⟩ :=
  den_of (N := N) (gam := [(10, ⟨[.t_Park], [.t_bool], [[none]], l42_few N⟩), (12, ⟨[.l_GunKind, .l_Gun], [.t_i64], [[none]], r42_Right N⟩)]) (txt := []) (hints := [(22, [([0, 1], ⟨[], [], [(.nrm, [.reg 2 .t_bool [none]])]⟩)])]) mixed (.cons (d_l42_few N) (.cons (d_r42_Right N) .nil)) .nil Try.func22 (by kernel_rfl) (by kernel_rfl)

def r42_Output (N : Nat) (x0 : GunKind) (x1 : Int) : Option Int :=
  (r01_At N x0.Output x1).bind fun (r2 : Int × Int) => some r2.fst
theorem d_r42_Output (N : Nat) : DenF Try.prog 24 ⟨[.t_GunKind, .t_i64], [.t_i64], [[none]], r42_Output N⟩ :=
  den_of (N := N) (gam := [(45, ⟨[.l_Point, .t_i64], [.t_i64, .t_i64], [[none], [none]], r01_At N⟩)]) (txt := []) (hints := []) mixed (.cons (d_r01_At N) .nil) .nil Try.func24 (by kernel_rfl) (by kernel_rfl)

def r42_Draws (N : Nat) (x0 : List GunKind) (x1 : List Gun) (x2 : Int) : Option ((List Draw)) :=
 
  (whileF N
        (fun (p3 : List Draw × Int) =>
          bif decide (p3.snd < (↑x1.length : Int)) then
            bif decide ((0 : Int) ≤ p3.snd) && decide (p3.snd < (↑x1.length : Int)) then
              (bif (x1.getD (Int.toNat p3.snd) z_Gun).State == (1 : Int) then
                    bif decide ((0 : Int) ≤ p3.snd) && decide (p3.snd < (↑x1.length : Int)) then
                      (r42_find N x0 (x1.getD (Int.toNat p3.snd) z_Gun).Kind).bind fun (r4 : GunKind × Bool) =>
                        bif decide ((0 : Int) ≤ p3.snd) && decide (p3.snd < (↑x1.length : Int)) then
                          (r42_Output N r4.fst x2).bind fun (r5 : Int) =>
                            (some [Draw.mk (x1.getD (Int.toNat p3.snd) z_Gun).Node r5]).bind fun (r6 : List Draw) =>
                              bif decide ((List.length p3.fst + r6.length) * 16 ≤ 140737488355328) then
                                (some (p3.fst ++ r6)).bind fun (r7 : List Draw) => some r7
                              else none
                        else none
                    else none
                  else some p3.fst).bind
                fun (r8 : List Draw) => some (Sum.inl (r8, IntKind.i64.wrap (p3.snd + (1 : Int))))
            else none
          else some (Sum.inr p3.fst))
        ([], (0 : Int))).bind
    fun (r9 : List Draw) => some r9
theorem d_r42_Draws (N : Nat) : DenF Try.prog 27 ⟨[.l_GunKind, .l_Gun, .t_i64], [.l_Draw], [[some 53]], r42_Draws N⟩ :=
  den_of (N := N) (gam := [(40, ⟨[.l_GunKind, .t_i64], [.t_GunKind, .t_bool], [[none, none, none, none], [none]], r42_find N⟩), (24, ⟨[.t_GunKind, .t_i64], [.t_i64], [[none]], r42_Output N⟩)]) (txt := []) (hints := [(27, [([0, 1, 0, 1, 1], ⟨[0, 1, 2], [.reg 7 .l_Draw [some 53], .reg 8 .t_i64 [none]], [(.ex 0, [.reg 7 .l_Draw [some 53]])]⟩), ([1, 0, 0, 1, 0, 0, 1, 0, 1, 1], ⟨[0, 1, 2, 8], [], [(.nrm, [.reg 7 .l_Draw [some 53]])]⟩)])]) mixed (.cons (d_r42_find N) (.cons (d_r42_Output N) .nil)) .nil Try.func27 (by kernel_rfl) (by kernel_rfl)

def r42_Needs (N : Nat) (x0 : List GunKind) (x1 : List Gun) : Option ((List Draw)) :=
 
  (whileF N
        (fun (p2 : List Draw × Int) =>
          bif decide (p2.snd < (↑x1.length : Int)) then
            bif decide ((0 : Int) ≤ p2.snd) && decide (p2.snd < (↑x1.length : Int)) then
              (bif (x1.getD (Int.toNat p2.snd) z_Gun).State == (1 : Int) then
                    bif decide ((0 : Int) ≤ p2.snd) && decide (p2.snd < (↑x1.length : Int)) then
                      (r42_find N x0 (x1.getD (Int.toNat p2.snd) z_Gun).Kind).bind fun (r3 : GunKind × Bool) =>
                        bif decide ((0 : Int) ≤ p2.snd) && decide (p2.snd < (↑x1.length : Int)) then
                          (some [Draw.mk (x1.getD (Int.toNat p2.snd) z_Gun).Node r3.fst.Pressure]).bind
                            fun (r4 : List Draw) =>
                            bif decide ((List.length p2.fst + r4.length) * 16 ≤ 140737488355328) then
                              (some (p2.fst ++ r4)).bind fun (r5 : List Draw) => some r5
                            else none
                        else none
                    else none
                  else some p2.fst).bind
                fun (r6 : List Draw) => some (Sum.inl (r6, IntKind.i64.wrap (p2.snd + (1 : Int))))
            else none
          else some (Sum.inr p2.fst))
        ([], (0 : Int))).bind
    fun (r7 : List Draw) => some r7
theorem d_r42_Needs (N : Nat) : DenF Try.prog 29 ⟨[.l_GunKind, .l_Gun], [.l_Draw], [[some 53]], r42_Needs N⟩ :=
  den_of (N := N) (gam := [(40, ⟨[.l_GunKind, .t_i64], [.t_GunKind, .t_bool], [[none, none, none, none], [none]], r42_find N⟩)]) (txt := []) (hints := [(29, [([0, 1, 0, 1, 1], ⟨[0, 1], [.reg 5 .l_Draw [some 53], .reg 6 .t_i64 [none]], [(.ex 0, [.reg 5 .l_Draw [some 53]])]⟩), ([1, 0, 0, 1, 0, 0, 1, 0, 1, 1], ⟨[0, 1, 6], [], [(.nrm, [.reg 5 .l_Draw [some 53]])]⟩)])]) mixed (.cons (d_r42_find N) .nil) .nil Try.func29 (by kernel_rfl) (by kernel_rfl)
end Go.Proofs.Ytenjellgjcofaaa
