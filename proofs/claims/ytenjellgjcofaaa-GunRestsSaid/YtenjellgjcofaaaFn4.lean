/- Written by a program (gen.py, asm.py): what each function computes, as a plain function, and that its text computes it. No condition. -/
import Derived.Test.YtenjellgjcofaaaFn3
import Derived.Test.YtenjellgjcofaaaCmo
namespace Go.Proofs.Ytenjellgjcofaaa
open Go.Cm Go.Proofs
set_option linter.unusedVariables false
set_option maxRecDepth 100000

def r42_Power (N : Nat) (x0 : List GunKind) (x1 : List Gun) : Option Int :=
 
  (whileF N
        (fun (p2 : Int × Int) =>
          bif decide (p2.snd < (↑x1.length : Int)) then
            bif decide ((0 : Int) ≤ p2.snd) && decide (p2.snd < (↑x1.length : Int)) then
              (bif (x1.getD (Int.toNat p2.snd) z_Gun).State == (1 : Int) then
                    bif decide ((0 : Int) ≤ p2.snd) && decide (p2.snd < (↑x1.length : Int)) then
                      (r42_find N x0 (x1.getD (Int.toNat p2.snd) z_Gun).Kind).bind fun (r3 : GunKind × Bool) =>
                        some (IntKind.i64.wrap (p2.fst + r3.fst.Power))
                    else none
                  else some p2.fst).bind
                fun (r4 : Int) => some (Sum.inl (r4, IntKind.i64.wrap (p2.snd + (1 : Int))))
            else none
          else some (Sum.inr p2.fst))
        ((0 : Int), (0 : Int))).bind
    fun (r5 : Int) => some r5
theorem d_r42_Power (N : Nat) : DenF Try.prog 31 ⟨[.l_GunKind, .l_Gun], [.t_i64], [[none]], r42_Power N⟩ :=
  den_of (N := N) (gam := [(40, ⟨[.l_GunKind, .t_i64], [.t_GunKind, .t_bool], [[none, none, none, none], [none]], r42_find N⟩)]) (txt := []) (hints := [(31, [([0, 1, 0, 1, 1], ⟨[0, 1], [.reg 5 .t_i64 [none], .reg 6 .t_i64 [none]], [(.ex 0, [.reg 5 .t_i64 [none]])]⟩), ([1, 0, 0, 1, 0, 0, 1, 0, 1, 1], ⟨[0, 1, 6], [], [(.nrm, [.reg 5 .t_i64 [none]])]⟩)])]) mixed (.cons (d_r42_find N) .nil) .nil Try.func31 (by kernel_rfl) (by kernel_rfl)

def l42_GunOutputs (N : Nat) (x0 : Park) (x1 : Int) : Option Bool :=
 
  (l42_alive N).bind fun (r2 : Bool) =>
    bif !r2 then some false
    else
      (l42_right N x0).bind fun (r3 : Bool) =>
        bif !r3 then some true
        else
          (whileF N
                (fun (p4 : Int) =>
                  bif decide (p4 < (↑x0.Kinds.length : Int)) then
                    bif decide ((0 : Int) ≤ p4) && decide (p4 < (↑x0.Kinds.length : Int)) then
                      (gun_Output N (x0.Kinds.getD p4.toNat z_GunKind) x1).bind fun (r5 : Int) =>
                        bif decide ((0 : Int) ≤ p4) && decide (p4 < (↑x0.Kinds.length : Int)) then
                          (r42_Output N (x0.Kinds.getD p4.toNat z_GunKind) x1).bind fun (r6 : Int) =>
                            bif r5 != r6 then some (Sum.inr (Sum.inr false))
                            else some (Sum.inl (IntKind.i64.wrap (p4 + (1 : Int))))
                        else none
                    else none
                  else some (Sum.inr (Sum.inl ())))
                (0 : Int)).bind
            fun (r7 : Unit ⊕ Bool) =>
            Sum.elim
              (fun (p8 : Unit) =>
                ((gun_Draws N x0.Kinds x0.Guns x1).bind fun (r9 : List Draw) =>
                      (r42_Draws N x0.Kinds x0.Guns x1).bind fun (r10 : List Draw) =>
                        (r42_Same N r9 r10).bind fun (r11 : Bool) =>
                          bif r11 then
                            (gun_Needs N x0.Kinds x0.Guns).bind fun (r12 : List Draw) =>
                              (r42_Needs N x0.Kinds x0.Guns).bind fun (r13 : List Draw) =>
                                (r42_Same N r12 r13).bind fun (r14 : Bool) =>
                                  bif r14 then
                                    (gun_Power N x0.Kinds x0.Guns).bind fun (r15 : Int) =>
                                      (r42_Power N x0.Kinds x0.Guns).bind fun (r16 : Int) => some (r15 == r16)
                                  else some false
                          else some false).bind
                  fun (r17 : Bool) => some r17)
              (fun (p18 : Bool) => some p18) r7
theorem d_l42_GunOutputs (N : Nat) : DenF Try.prog 5 ⟨[.t_Park, .t_i64], [.t_bool], [[none]], l42_GunOutputs N⟩ :=
  den_of (N := N) (gam := [(9, ⟨[], [.t_bool], [[none]], l42_alive N⟩), (22, ⟨[.t_Park], [.t_bool], [[none]], l42_right N⟩), (23, ⟨[.t_GunKind, .t_i64], [.t_i64], [[none]], gun_Output N⟩), (24, ⟨[.t_GunKind, .t_i64], [.t_i64], [[none]], r42_Output N⟩), (26, ⟨[.l_GunKind, .l_Gun, .t_i64], [.l_Draw], [[some 53]], gun_Draws N⟩), (27, ⟨[.l_GunKind, .l_Gun, .t_i64], [.l_Draw], [[some 53]], r42_Draws N⟩), (25, ⟨[.l_Draw, .l_Draw], [.t_bool], [[none]], r42_Same N⟩), (28, ⟨[.l_GunKind, .l_Gun], [.l_Draw], [[some 53]], gun_Needs N⟩), (29, ⟨[.l_GunKind, .l_Gun], [.l_Draw], [[some 53]], r42_Needs N⟩), (30, ⟨[.l_GunKind, .l_Gun], [.t_i64], [[none]], gun_Power N⟩), (31, ⟨[.l_GunKind, .l_Gun], [.t_i64], [[none]], r42_Power N⟩)]) (txt := []) (hints := [(5, [([0, 1, 0, 1, 1, 1], ⟨[1, 2], [.reg 5 .t_i64 [none]], [(.ex 0, []), (.ret, [.reg 4 .t_bool [none]])]⟩), ([0, 1, 1, 1, 1], ⟨[], [], [(.nrm, [.reg 4 .t_bool [none]])]⟩)])]) mixed (.cons (d_l42_alive N) (.cons (d_l42_right N) (.cons (d_gun_Output N) (.cons (d_r42_Output N) (.cons (d_gun_Draws N) (.cons (d_r42_Draws N) (.cons (d_r42_Same N) (.cons (d_gun_Needs N) (.cons (d_r42_Needs N) (.cons (d_gun_Power N) (.cons (d_r42_Power N) .nil))))))))))) .nil Try.func5 (by kernel_rfl) (by kernel_rfl)

def l42_act (N : Nat) (x0 : Gun) (x1 : Op) : Option (Gun × Int) :=
 
  bif x1.Kind == (0 : Int) then (gun_Start N x0 x1.T).bind fun (r2 : Gun × Int) => some r2
  else
    bif x1.Kind == (1 : Int) then (gun_Stop N x0 x1.T).bind fun (r3 : Gun × Int) => some r3
    else
      bif x1.Kind == (2 : Int) then (gun_Fail N x0 x1.T).bind fun (r4 : Gun × Int) => some r4
      else (gun_Repair N x0 x1.T).bind fun (r5 : Gun × Int) => some r5
theorem d_l42_act (N : Nat) : DenF Try.prog 32 ⟨[.t_Gun, .t_Op], [.t_Gun, .t_i64], [[none, none, none, none, none, none, none, none], [none]], l42_act N⟩ :=
  den_of (N := N) (gam := [(14, ⟨[.t_Gun, .t_i64], [.t_Gun, .t_i64], [[none, none, none, none, none, none, none, none], [none]], gun_Start N⟩), (16, ⟨[.t_Gun, .t_i64], [.t_Gun, .t_i64], [[none, none, none, none, none, none, none, none], [none]], gun_Stop N⟩), (18, ⟨[.t_Gun, .t_i64], [.t_Gun, .t_i64], [[none, none, none, none, none, none, none, none], [none]], gun_Fail N⟩), (20, ⟨[.t_Gun, .t_i64], [.t_Gun, .t_i64], [[none, none, none, none, none, none, none, none], [none]], gun_Repair N⟩)]) (txt := []) (hints := []) mixed (.cons (d_gun_Start N) (.cons (d_gun_Stop N) (.cons (d_gun_Fail N) (.cons (d_gun_Repair N) .nil)))) .nil Try.func32 (by kernel_rfl) (by kernel_rfl)

def l42_GunRests (N : Nat) (x0 : Gun) (x1 : List Op) : Option Bool :=
 
  (l42_alive N).bind fun (r2 : Bool) =>
    bif !r2 then some false
    else
      ((l42_single N x0).bind fun (r3 : Bool) =>
            bif !r3 then some true else some (decide ((↑x1.length : Int) > (60 : Int)))).bind
        fun (r4 : Bool) =>
        bif r4 then some true
        else
          (whileF N
                (fun (p5 : Int × Gun) =>
                  bif decide (p5.fst < (↑x1.length : Int)) then
                    (bif decide ((0 : Int) ≤ p5.fst) && decide (p5.fst < (↑x1.length : Int)) then
                          (l42_act N p5.snd (x1.getD (Int.toNat p5.fst) z_Op)).bind fun (r6 : Gun × Int) =>
                            bif r6.snd != (0 : Int) then
                              bif
                                  !(r6.fst.ID == (0 : Int) &&
                                      (r6.fst.Node == (0 : Int) &&
                                        (r6.fst.Run == (0 : Int) &&
                                          (r6.fst.Kind == (0 : Int) &&
                                            (r6.fst.State == (0 : Int) &&
                                              (r6.fst.Since == (0 : Int) &&
                                                (r6.fst.On == (0 : Int) && (r6.fst.Off == (0 : Int) && true)))))))) then
                                some (Sum.inr (false, p5.snd))
                              else some (Sum.inl p5.snd)
                            else
                              (bif
                                      !(r6.fst.ID == p5.snd.ID &&
                                          (r6.fst.Node == p5.snd.Node &&
                                            (r6.fst.Run == p5.snd.Run &&
                                              (r6.fst.Kind == p5.snd.Kind &&
                                                (p5.snd.State == p5.snd.State &&
                                                  (p5.snd.Since == p5.snd.Since &&
                                                    (r6.fst.On == p5.snd.On &&
                                                      (r6.fst.Off == p5.snd.Off && true)))))))) then
                                    some true
                                  else
                                    bif decide ((0 : Int) ≤ p5.fst) && decide (p5.fst < (↑x1.length : Int)) then
                                      bif r6.fst.Since != (x1.getD (Int.toNat p5.fst) z_Op).T then some true
                                      else
                                        bif decide (r6.fst.Since < p5.snd.Since) then some true
                                        else (l42_single N r6.fst).bind fun (r7 : Bool) => some !r7
                                    else none).bind
                                fun (r8 : Bool) =>
                                bif r8 then some (Sum.inr (false, p5.snd))
                                else
                                  (bif decide ((0 : Int) ≤ p5.fst) && decide (p5.fst < (↑x1.length : Int)) then
                                        bif (x1.getD (Int.toNat p5.fst) z_Op).Kind == (0 : Int) then
                                          bif p5.snd.State != (0 : Int) then some true
                                          else
                                            bif r6.fst.State != (1 : Int) then some true
                                            else
                                              bif
                                                  decide
                                                    (IntKind.i64.wrap (r6.fst.Since - p5.snd.Since) < p5.snd.Off) then
                                                some true
                                              else
                                                bif
                                                    decide ((0 : Int) ≤ p5.fst) &&
                                                      decide (p5.fst < (↑x1.length : Int)) then
                                                  bif (x1.getD (Int.toNat p5.fst) z_Op).Kind == (1 : Int) then
                                                    bif p5.snd.State != (1 : Int) then some true
                                                    else
                                                      bif r6.fst.State != (0 : Int) then some true
                                                      else
                                                        bif
                                                            decide
                                                              (IntKind.i64.wrap (r6.fst.Since - p5.snd.Since) <
                                                                p5.snd.On) then
                                                          some true
                                                        else
                                                          bif
                                                              decide ((0 : Int) ≤ p5.fst) &&
                                                                decide (p5.fst < (↑x1.length : Int)) then
                                                            bif (x1.getD (Int.toNat p5.fst) z_Op).Kind == (2 : Int) then
                                                              some (r6.fst.State != (2 : Int))
                                                            else some false
                                                          else none
                                                  else
                                                    bif
                                                        decide ((0 : Int) ≤ p5.fst) &&
                                                          decide (p5.fst < (↑x1.length : Int)) then
                                                      bif (x1.getD (Int.toNat p5.fst) z_Op).Kind == (2 : Int) then
                                                        some (r6.fst.State != (2 : Int))
                                                      else some false
                                                    else none
                                                else none
                                        else
                                          bif decide ((0 : Int) ≤ p5.fst) && decide (p5.fst < (↑x1.length : Int)) then
                                            bif (x1.getD (Int.toNat p5.fst) z_Op).Kind == (1 : Int) then
                                              bif p5.snd.State != (1 : Int) then some true
                                              else
                                                bif r6.fst.State != (0 : Int) then some true
                                                else
                                                  bif
                                                      decide
                                                        (IntKind.i64.wrap (r6.fst.Since - p5.snd.Since) <
                                                          p5.snd.On) then
                                                    some true
                                                  else
                                                    bif
                                                        decide ((0 : Int) ≤ p5.fst) &&
                                                          decide (p5.fst < (↑x1.length : Int)) then
                                                      bif (x1.getD (Int.toNat p5.fst) z_Op).Kind == (2 : Int) then
                                                        some (r6.fst.State != (2 : Int))
                                                      else some false
                                                    else none
                                            else
                                              bif
                                                  decide ((0 : Int) ≤ p5.fst) &&
                                                    decide (p5.fst < (↑x1.length : Int)) then
                                                bif (x1.getD (Int.toNat p5.fst) z_Op).Kind == (2 : Int) then
                                                  some (r6.fst.State != (2 : Int))
                                                else some false
                                              else none
                                          else none
                                      else none).bind
                                    fun (r9 : Bool) =>
                                    bif r9 then some (Sum.inr (false, p5.snd)) else some (Sum.inl r6.fst)
                        else none).bind
                      fun (r10 : Gun ⊕ Bool × Gun) =>
                      Sum.elim (fun (p11 : Gun) => some (Sum.inl (IntKind.i64.wrap (p5.fst + (1 : Int)), p11)))
                        (fun (p12 : Bool × Gun) => some (Sum.inr (Sum.inr p12))) r10
                  else some (Sum.inr (Sum.inl p5.snd)))
                ((0 : Int), x0)).bind
            fun (r13 : Gun ⊕ Bool × Gun) =>
            Sum.elim (fun (p14 : Gun) => some true) (fun (p15 : Bool × Gun) => some p15.fst) r13
theorem d_l42_GunRests (N : Nat) : DenF Try.prog 6 ⟨[.t_Gun, .l_Op], [.t_bool], [[none]], l42_GunRests N⟩ :=
  den_of (N := N) (gam := [(9, ⟨[], [.t_bool], [[none]], l42_alive N⟩), (13, ⟨[.t_Gun], [.t_bool], [[none]], l42_single N⟩), (32, ⟨[.t_Gun, .t_Op], [.t_Gun, .t_i64], [[none, none, none, none, none, none, none, none], [none]], l42_act N⟩)]) (txt := []) (hints := [(6, [([0, 0, 1, 1], ⟨[1, 2], [], [(.nrm, [.reg 18 .t_bool [none]])]⟩), ([0, 1, 0, 1, 1, 1], ⟨[1, 2], [.reg 5 .t_i64 [none], .var 2 .t_Gun [none, none, none, none, none, none, none, none]], [(.ex 0, [.var 2 .t_Gun [none, none, none, none, none, none, none, none]]), (.ret, [.reg 4 .t_bool [none], .var 2 .t_Gun [none, none, none, none, none, none, none, none]])]⟩), ([0, 1, 0, 0, 1, 0, 1, 1, 1], ⟨[1, 2, 5], [], [(.nrm, [.var 2 .t_Gun [none, none, none, none, none, none, none, none]]), (.ret, [.reg 4 .t_bool [none], .var 2 .t_Gun [none, none, none, none, none, none, none, none]])]⟩), ([0, 0, 1, 1, 1, 1, 0, 0, 1, 0, 0, 1, 0, 1, 1, 1], ⟨[1, 2, 5, 6], [], [(.nrm, [.reg 70 .t_bool [none]])]⟩), ([0, 0, 1, 1, 1, 1, 1, 0, 0, 1, 0, 0, 1, 0, 1, 1, 1], ⟨[1, 2, 5, 6], [], [(.nrm, [.reg 137 .t_bool [none]])]⟩)])]) mixed (.cons (d_l42_alive N) (.cons (d_l42_single N) (.cons (d_l42_act N) .nil))) .nil Try.func6 (by kernel_rfl) (by kernel_rfl)

def l42_GunWeather (N : Nat) (x0 : Park) (x1 : Arr2_51) : Option Bool :=
 
  (l42_alive N).bind fun (r2 : Bool) =>
    bif !r2 then some false
    else
      (l42_right N x0).bind fun (r3 : Bool) =>
        bif !r3 then some true
        else
          (gun_Draws N x0.Kinds x0.Guns (min x1.a0 x1.a1)).bind fun (r4 : List Draw) =>
            (gun_Draws N x0.Kinds x0.Guns (max x1.a0 x1.a1)).bind fun (r5 : List Draw) =>
              (gun_Needs N x0.Kinds x0.Guns).bind fun (r6 : List Draw) =>
                (whileF N
                      (fun (p7 : Int × Int) =>
                        bif decide (p7.snd < (↑x0.Guns.length : Int)) then
                          (bif decide ((0 : Int) ≤ p7.snd) && decide (p7.snd < (↑x0.Guns.length : Int)) then
                                bif (x0.Guns.getD (Int.toNat p7.snd) z_Gun).State != (1 : Int) then
                                  some (Sum.inl p7.fst)
                                else
                                  (bif decide (p7.fst ≥ (↑r4.length : Int)) then some true
                                      else
                                        bif decide (p7.fst ≥ (↑r5.length : Int)) then some true
                                        else
                                          bif decide (p7.fst ≥ (↑r6.length : Int)) then some true
                                          else
                                            bif decide ((0 : Int) ≤ p7.fst) && decide (p7.fst < (↑r4.length : Int)) then
                                              bif
                                                  decide ((0 : Int) ≤ p7.snd) &&
                                                    decide (p7.snd < (↑x0.Guns.length : Int)) then
                                                bif
                                                    (r4.getD (Int.toNat p7.fst) z_Draw).Node !=
                                                      (x0.Guns.getD (Int.toNat p7.snd) z_Gun).Node then
                                                  some true
                                                else
                                                  bif
                                                      decide ((0 : Int) ≤ p7.fst) &&
                                                        decide (p7.fst < (↑r5.length : Int)) then
                                                    bif
                                                        decide ((0 : Int) ≤ p7.fst) &&
                                                          decide (p7.fst < (↑r4.length : Int)) then
                                                      bif
                                                          (r5.getD (Int.toNat p7.fst) z_Draw).Node !=
                                                            (r4.getD (Int.toNat p7.fst) z_Draw).Node then
                                                        some true
                                                      else
                                                        bif
                                                            decide ((0 : Int) ≤ p7.fst) &&
                                                              decide (p7.fst < (↑r6.length : Int)) then
                                                          bif
                                                              decide ((0 : Int) ≤ p7.fst) &&
                                                                decide (p7.fst < (↑r4.length : Int)) then
                                                            bif
                                                                (r6.getD (Int.toNat p7.fst) z_Draw).Node !=
                                                                  (r4.getD (Int.toNat p7.fst) z_Draw).Node then
                                                              some true
                                                            else
                                                              bif
                                                                  decide ((0 : Int) ≤ p7.fst) &&
                                                                    decide (p7.fst < (↑r4.length : Int)) then
                                                                bif
                                                                    decide ((0 : Int) ≤ p7.fst) &&
                                                                      decide (p7.fst < (↑r5.length : Int)) then
                                                                  bif
                                                                      decide
                                                                        ((r4.getD (Int.toNat p7.fst) z_Draw).Flow <
                                                                          (r5.getD (Int.toNat p7.fst) z_Draw).Flow) then
                                                                    some true
                                                                  else
                                                                    bif
                                                                        decide ((0 : Int) ≤ p7.fst) &&
                                                                          decide (p7.fst < (↑r5.length : Int)) then
                                                                      some
                                                                        (decide
                                                                          ((r5.getD (Int.toNat p7.fst) z_Draw).Flow <
                                                                            (0 : Int)))
                                                                    else none
                                                                else none
                                                              else none
                                                          else none
                                                        else none
                                                    else none
                                                  else none
                                              else none
                                            else none).bind
                                    fun (r8 : Bool) =>
                                    bif r8 then some (Sum.inr false)
                                    else some (Sum.inl (IntKind.i64.wrap (p7.fst + (1 : Int))))
                              else none).bind
                            fun (r9 : Int ⊕ Bool) =>
                            Sum.elim (fun (p10 : Int) => some (Sum.inl (p10, IntKind.i64.wrap (p7.snd + (1 : Int)))))
                              (fun (p11 : Bool) => some (Sum.inr (Sum.inr p11))) r9
                        else some (Sum.inr (Sum.inl p7.fst)))
                      ((0 : Int), (0 : Int))).bind
                  fun (r12 : Int ⊕ Bool) =>
                  Sum.elim
                    (fun (p13 : Int) =>
                      (bif (↑r4.length : Int) == p13 then
                            bif (↑r5.length : Int) == p13 then
                              bif (↑r6.length : Int) == p13 then
                                bif decide (p13 > (0 : Int)) then
                                  (gun_Power N x0.Kinds x0.Guns).bind fun (r14 : Int) => some (decide (r14 ≥ (0 : Int)))
                                else
                                  (gun_Power N x0.Kinds x0.Guns).bind fun (r15 : Int) =>
                                    bif r15 == (0 : Int) then
                                      (gun_Power N x0.Kinds x0.Guns).bind fun (r16 : Int) =>
                                        some (decide (r16 ≥ (0 : Int)))
                                    else some false
                              else some false
                            else some false
                          else some false).bind
                        fun (r17 : Bool) => some r17)
                    (fun (p18 : Bool) => some p18) r12
theorem d_l42_GunWeather (N : Nat) : DenF Try.prog 7 ⟨[.t_Park, .t_Arr2_51], [.t_bool], [[none]], l42_GunWeather N⟩ :=
  den_of (N := N) (gam := [(9, ⟨[], [.t_bool], [[none]], l42_alive N⟩), (22, ⟨[.t_Park], [.t_bool], [[none]], l42_right N⟩), (26, ⟨[.l_GunKind, .l_Gun, .t_i64], [.l_Draw], [[some 53]], gun_Draws N⟩), (28, ⟨[.l_GunKind, .l_Gun], [.l_Draw], [[some 53]], gun_Needs N⟩), (30, ⟨[.l_GunKind, .l_Gun], [.t_i64], [[none]], gun_Power N⟩)]) (txt := []) (hints := [(7, [([0, 1, 0, 1, 1, 1, 1, 1], ⟨[2, 5, 6, 7], [.reg 8 .t_i64 [none], .reg 9 .t_i64 [none]], [(.ex 0, [.reg 8 .t_i64 [none]]), (.ret, [.reg 4 .t_bool [none]])]⟩), ([0, 1, 0, 0, 1, 0, 1, 1, 1, 1, 1], ⟨[2, 5, 6, 7, 9], [], [(.nrm, [.reg 8 .t_i64 [none]]), (.ret, [.reg 4 .t_bool [none]])]⟩), ([0, 0, 1, 0, 0, 1, 0, 0, 1, 0, 1, 1, 1, 1, 1], ⟨[2, 5, 6, 7, 8, 9], [], [(.nrm, [.reg 130 .t_bool [none]])]⟩), ([0, 1, 1, 1, 1, 1, 1], ⟨[], [], [(.nrm, [.reg 4 .t_bool [none]])]⟩)])]) mixed (.cons (d_l42_alive N) (.cons (d_l42_right N) (.cons (d_gun_Draws N) (.cons (d_gun_Needs N) (.cons (d_gun_Power N) .nil))))) .nil Try.func7 (by kernel_rfl) (by kernel_rfl)

def l42_GunParts (N : Nat) (x0 : Park) (x1 x2 : Int) : Option Bool :=
 
  (l42_alive N).bind fun (r3 : Bool) =>
    bif !r3 then some false
    else
      ((l42_right N x0).bind fun (r4 : Bool) =>
            bif !r4 then some true
            else bif decide (x1 < (0 : Int)) then some true else some (decide (x1 > (↑x0.Guns.length : Int)))).bind
        fun (r5 : Bool) =>
        bif r5 then some true
        else
          bif decide ((0 : Int) ≤ x1) && decide (x1 ≤ (↑x0.Guns.length : Int)) then
            bif decide ((0 : Int) ≤ x1) && decide (x1 ≤ (↑x0.Guns.length : Int)) then
              (gun_Draws N x0.Kinds (List.take x1.toNat x0.Guns) x2).bind fun (r6 : List Draw) =>
                (gun_Needs N x0.Kinds (List.take x1.toNat x0.Guns)).bind fun (r7 : List Draw) =>
                  bif decide ((0 + r6.length) * 16 ≤ 140737488355328) then
                    (some ([] ++ r6)).bind fun (r8 : List Draw) =>
                      (gun_Draws N x0.Kinds (List.drop x1.toNat x0.Guns) x2).bind fun (r9 : List Draw) =>
                        bif decide ((r8.length + r9.length) * 16 ≤ 140737488355328) then
                          (some (r8 ++ r9)).bind fun (r10 : List Draw) =>
                            bif decide ((0 + r7.length) * 16 ≤ 140737488355328) then
                              (some ([] ++ r7)).bind fun (r11 : List Draw) =>
                                (gun_Needs N x0.Kinds (List.drop x1.toNat x0.Guns)).bind fun (r12 : List Draw) =>
                                  bif decide ((r11.length + r12.length) * 16 ≤ 140737488355328) then
                                    (some (r11 ++ r12)).bind fun (r13 : List Draw) =>
                                      ((gun_Draws N x0.Kinds x0.Guns x2).bind fun (r14 : List Draw) =>
                                            (r42_Same N r10 r14).bind fun (r15 : Bool) =>
                                              bif r15 then
                                                (gun_Needs N x0.Kinds x0.Guns).bind fun (r16 : List Draw) =>
                                                  (r42_Same N r13 r16).bind fun (r17 : Bool) =>
                                                    bif r17 then
                                                      (gun_Power N x0.Kinds (List.take x1.toNat x0.Guns)).bind
                                                        fun (r18 : Int) =>
                                                        (gun_Power N x0.Kinds (List.drop x1.toNat x0.Guns)).bind
                                                          fun (r19 : Int) =>
                                                          (gun_Power N x0.Kinds x0.Guns).bind fun (r20 : Int) =>
                                                            some (IntKind.i64.wrap (r18 + r19) == r20)
                                                    else some false
                                              else some false).bind
                                        fun (r21 : Bool) => some r21
                                  else none
                            else none
                        else none
                  else none
            else none
          else none
theorem d_l42_GunParts (N : Nat) : DenF Try.prog 8 ⟨[.t_Park, .t_i64, .t_i64], [.t_bool], [[none]], l42_GunParts N⟩ :=
  den_of (N := N) (gam := [(9, ⟨[], [.t_bool], [[none]], l42_alive N⟩), (22, ⟨[.t_Park], [.t_bool], [[none]], l42_right N⟩), (26, ⟨[.l_GunKind, .l_Gun, .t_i64], [.l_Draw], [[some 53]], gun_Draws N⟩), (28, ⟨[.l_GunKind, .l_Gun], [.l_Draw], [[some 53]], gun_Needs N⟩), (25, ⟨[.l_Draw, .l_Draw], [.t_bool], [[none]], r42_Same N⟩), (30, ⟨[.l_GunKind, .l_Gun], [.t_i64], [[none]], gun_Power N⟩)]) (txt := []) (hints := [(8, [([0, 0, 1, 1], ⟨[1, 2, 3], [], [(.nrm, [.reg 26 .t_bool [none]])]⟩), ([0, 1, 1, 1, 1, 1, 1, 1, 1], ⟨[], [], [(.nrm, [.reg 6 .t_bool [none]])]⟩)])]) mixed (.cons (d_l42_alive N) (.cons (d_l42_right N) (.cons (d_gun_Draws N) (.cons (d_gun_Needs N) (.cons (d_r42_Same N) (.cons (d_gun_Power N) .nil)))))) .nil Try.func8 (by kernel_rfl) (by kernel_rfl)
end Go.Proofs.Ytenjellgjcofaaa
