/- Written by a program (gen.py, asm.py): what each function computes, as a plain function, and that its text computes it. No condition. -/
import Derived.Test.YtenjellgjcofaaaFn1
import Derived.Test.YtenjellgjcofaaaCmo
namespace Go.Proofs.Ytenjellgjcofaaa
open Go.Cm Go.Proofs
set_option linter.unusedVariables false
set_option maxRecDepth 100000

def r42_Same (N : Nat) (x0 x1 : List Draw) : Option Bool :=
 
  bif (↑x0.length : Int) != (↑x1.length : Int) then some false
  else
    (whileF N
          (fun (p2 : Int) =>
            bif decide (p2 < (↑x0.length : Int)) then
              bif decide ((0 : Int) ≤ p2) && decide (p2 < (↑x0.length : Int)) then
                bif decide ((0 : Int) ≤ p2) && decide (p2 < (↑x1.length : Int)) then
                  bif
                      !((x0.getD p2.toNat z_Draw).Node == (x1.getD p2.toNat z_Draw).Node &&
                          ((x0.getD p2.toNat z_Draw).Flow == (x1.getD p2.toNat z_Draw).Flow && true)) then
                    some (Sum.inr (Sum.inr false))
                  else some (Sum.inl (IntKind.i64.wrap (p2 + (1 : Int))))
                else none
              else none
            else some (Sum.inr (Sum.inl ())))
          (0 : Int)).bind
      fun (r3 : Unit ⊕ Bool) => Sum.elim (fun (p4 : Unit) => some true) (fun (p5 : Bool) => some p5) r3
theorem d_r42_Same (N : Nat) : DenF Try.prog 25 ⟨[.l_Draw, .l_Draw], [.t_bool], [[none]], r42_Same N⟩ :=
  den_of (N := N) (gam := []) (txt := []) (hints := [(25, [([0, 1, 0, 1, 1], ⟨[0, 1], [.reg 5 .t_i64 [none]], [(.ex 0, []), (.ret, [.reg 4 .t_bool [none]])]⟩)])]) mixed .nil .nil Try.func25 (by kernel_rfl) (by kernel_rfl)

def gun_Power (N : Nat) (x0 : List GunKind) (x1 : List Gun) : Option Int :=
 
  (whileF N
        (fun (p2 : Int × Int) =>
          bif decide (p2.snd < (↑x1.length : Int)) then
            bif decide ((0 : Int) ≤ p2.snd) && decide (p2.snd < (↑x1.length : Int)) then
              (bif (x1.getD (Int.toNat p2.snd) z_Gun).State == (1 : Int) then
                    (gun_kind N x0 (x1.getD (Int.toNat p2.snd) z_Gun).Kind).bind fun (r3 : GunKind) =>
                      some (IntKind.i64.wrap (p2.fst + r3.Power))
                  else some p2.fst).bind
                fun (r4 : Int) => some (Sum.inl (r4, IntKind.i64.wrap (p2.snd + (1 : Int))))
            else none
          else some (Sum.inr p2.fst))
        ((0 : Int), (0 : Int))).bind
    fun (r5 : Int) => some r5
theorem d_gun_Power (N : Nat) : DenF Try.prog 30 ⟨[.l_GunKind, .l_Gun], [.t_i64], [[none]], gun_Power N⟩ :=
  den_of (N := N) (gam := [(46, ⟨[.l_GunKind, .t_i64], [.t_GunKind], [[none, none, none, none]], gun_kind N⟩)]) (txt := []) (hints := [(30, [([0, 1, 0, 1, 1], ⟨[0, 8, 9], [.reg 5 .t_i64 [none], .reg 10 .t_i64 [none]], [(.ex 0, [.reg 5 .t_i64 [none]])]⟩), ([1, 1, 0, 0, 1, 1, 0, 0, 1, 0, 1, 1], ⟨[0, 8, 9, 10], [], [(.nrm, [.reg 5 .t_i64 [none]])]⟩)])]) mixed (.cons (d_gun_kind N) .nil) .nil Try.func30 (by kernel_rfl) (by kernel_rfl)

def gun_falling (N : Nat) (x0 : List Point) : Option Bool :=
 
  (fixed_At N x0 (0 : Int)).bind fun (r1 : Int × Int) =>
    bif r1.snd != (0 : Int) then some false
    else
      (whileF N
            (fun (p2 : Int) =>
              bif decide (p2 < (↑x0.length : Int)) then
                bif decide ((0 : Int) ≤ p2) && decide (p2 < (↑x0.length : Int)) then
                  (bif decide ((x0.getD p2.toNat z_Point).Y < (0 : Int)) then some true
                      else
                        bif decide ((x0.getD p2.toNat z_Point).Y > (10000 : Int)) then some true
                        else
                          bif decide (p2 > (0 : Int)) then
                            bif
                                decide ((0 : Int) ≤ IntKind.i64.wrap (p2 - (1 : Int))) &&
                                  decide (IntKind.i64.wrap (p2 - (1 : Int)) < (↑x0.length : Int)) then
                              some
                                (decide
                                  ((x0.getD p2.toNat z_Point).Y >
                                    (x0.getD (IntKind.i64.wrap (p2 - (1 : Int))).toNat z_Point).Y))
                            else none
                          else some false).bind
                    fun (r3 : Bool) =>
                    bif r3 then some (Sum.inr (Sum.inr false)) else some (Sum.inl (IntKind.i64.wrap (p2 + (1 : Int))))
                else none
              else some (Sum.inr (Sum.inl ())))
            (0 : Int)).bind
        fun (r4 : Unit ⊕ Bool) => Sum.elim (fun (p5 : Unit) => some true) (fun (p6 : Bool) => some p6) r4
theorem d_gun_falling (N : Nat) : DenF Try.prog 35 ⟨[.l_Point], [.t_bool], [[none]], gun_falling N⟩ :=
  den_of (N := N) (gam := [(44, ⟨[.l_Point, .t_i64], [.t_i64, .t_i64], [[none], [none]], fixed_At N⟩)]) (txt := []) (hints := [(35, [([0, 1, 0, 1, 1], ⟨[0, 14, 15], [.reg 16 .t_i64 [none]], [(.ex 0, []), (.ret, [.reg 2 .t_bool [none]])]⟩), ([0, 1, 0, 0, 1, 1, 0, 0, 1, 0, 1, 1], ⟨[0, 14, 15, 16], [], [(.nrm, [.reg 43 .t_bool [none]])]⟩)])]) mixed (.cons (d_fixed_At N) .nil) .nil Try.func35 (by kernel_rfl) (by kernel_rfl)

def gun_inRange (N : Nat) (x0 : Gun) : Option Bool :=
 
  (whileF N
        (fun (p1 : Int) =>
          bif decide (p1 < (3 : Int)) then
            bif decide ((0 : Int) ≤ p1) && decide (p1 < (3 : Int)) then
              (bif decide ([x0.ID, x0.Node, x0.Run].getD p1.toNat (0 : Int) < (1 : Int)) then some true
                  else some (decide ([x0.ID, x0.Node, x0.Run].getD p1.toNat (0 : Int) > (9999 : Int)))).bind
                fun (r2 : Bool) =>
                bif r2 then some (Sum.inr (Sum.inr false)) else some (Sum.inl (IntKind.i64.wrap (p1 + (1 : Int))))
            else none
          else some (Sum.inr (Sum.inl ())))
        (0 : Int)).bind
    fun (r3 : Unit ⊕ Bool) =>
    Sum.elim
      (fun (p4 : Unit) =>
        (whileF N
              (fun (p5 : Int) =>
                bif decide (p5 < (2 : Int)) then
                  bif decide ((0 : Int) ≤ p5) && decide (p5 < (2 : Int)) then
                    (bif decide ([x0.On, x0.Off].getD p5.toNat (0 : Int) < (0 : Int)) then some true
                        else some (decide ([x0.On, x0.Off].getD p5.toNat (0 : Int) > (86400 : Int)))).bind
                      fun (r6 : Bool) =>
                      bif r6 then some (Sum.inr (Sum.inr false)) else some (Sum.inl (IntKind.i64.wrap (p5 + (1 : Int))))
                  else none
                else some (Sum.inr (Sum.inl ())))
              (0 : Int)).bind
          fun (r7 : Unit ⊕ Bool) =>
          Sum.elim
            (fun (p8 : Unit) =>
              (bif decide (x0.State ≥ (0 : Int)) then
                    bif decide (x0.State ≤ (2 : Int)) then
                      bif decide (x0.Since ≥ (0 : Int)) then some (decide (x0.Since ≤ (20000000 : Int))) else some false
                    else some false
                  else some false).bind
                fun (r9 : Bool) => some r9)
            (fun (p10 : Bool) => some p10) r7)
      (fun (p11 : Bool) => some p11) r3
theorem d_gun_inRange (N : Nat) : DenF Try.prog 36 ⟨[.t_Gun], [.t_bool], [[none]], gun_inRange N⟩ :=
  den_of (N := N) (gam := []) (txt := []) (hints := [(36, [([0, 1, 0, 1], ⟨[1, 13], [.reg 14 .t_i64 [none]], [(.ex 0, []), (.ret, [.reg 2 .t_bool [none]])]⟩), ([0, 1, 0, 0, 1, 1, 0, 0, 1, 0, 1], ⟨[1, 13, 14], [], [(.nrm, [.reg 22 .t_bool [none]])]⟩), ([0, 1, 0, 1, 1], ⟨[1, 28], [.reg 29 .t_i64 [none]], [(.ex 2, []), (.ret, [.reg 2 .t_bool [none]])]⟩), ([0, 1, 0, 0, 1, 1, 0, 0, 1, 0, 1, 1], ⟨[1, 28, 29], [], [(.nrm, [.reg 37 .t_bool [none]])]⟩), ([0, 1, 1, 1], ⟨[], [], [(.nrm, [.reg 2 .t_bool [none]])]⟩)])]) mixed .nil .nil Try.func36 (by kernel_rfl) (by kernel_rfl)

def gun_Right (N : Nat) (x0 : List GunKind) (x1 : List Gun) : Option Int :=
 
  (bif decide ((↑x0.length : Int) > (64 : Int)) then some true
      else some (decide ((↑x1.length : Int) > (64 : Int)))).bind
    fun (r2 : Bool) =>
    bif r2 then some (4 : Int)
    else
      (whileF N
            (fun (p3 : Int × (Int → Option Bool)) =>
              bif decide (p3.fst < (↑x0.length : Int)) then
                bif decide ((0 : Int) ≤ p3.fst) && decide (p3.fst < (↑x0.length : Int)) then
                  (bif decide ((x0.getD (Int.toNat p3.fst) z_GunKind).ID < (1 : Int)) then some true
                      else
                        bif decide ((x0.getD (Int.toNat p3.fst) z_GunKind).ID > (9999 : Int)) then some true
                        else
                          bif decide ((x0.getD (Int.toNat p3.fst) z_GunKind).Power < (0 : Int)) then some true
                          else
                            bif decide ((x0.getD (Int.toNat p3.fst) z_GunKind).Power > (1000000 : Int)) then some true
                            else
                              bif decide ((x0.getD (Int.toNat p3.fst) z_GunKind).Pressure < (0 : Int)) then some true
                              else
                                some (decide ((x0.getD (Int.toNat p3.fst) z_GunKind).Pressure > (1000000 : Int)))).bind
                    fun (r4 : Bool) =>
                    bif r4 then some (Sum.inr (Sum.inr ((2 : Int), p3.snd)))
                    else
                      bif (p3.snd (x0.getD (Int.toNat p3.fst) z_GunKind).ID).getD false then
                        some (Sum.inr (Sum.inr ((7 : Int), p3.snd)))
                      else
                        (gun_falling N (x0.getD (Int.toNat p3.fst) z_GunKind).Output).bind fun (r5 : Bool) =>
                          bif !r5 then
                            some
                              (Sum.inr
                                (Sum.inr
                                  ((1 : Int), fun (u : Int) =>
                                    bif u == (x0.getD (Int.toNat p3.fst) z_GunKind).ID then some true else p3.snd u)))
                          else
                            some
                              (Sum.inl
                                (IntKind.i64.wrap (p3.fst + (1 : Int)), fun (u : Int) =>
                                  bif u == (x0.getD (Int.toNat p3.fst) z_GunKind).ID then some true else p3.snd u))
                else none
              else some (Sum.inr (Sum.inl p3.snd)))
            ((0 : Int), fun (x : Int) => none)).bind
        fun (r6 : (Int → Option Bool) ⊕ Int × (Int → Option Bool)) =>
        Sum.elim
          (fun (p7 : Int → Option Bool) =>
            (whileF N
                  (fun (p8 : Int × (Int → Option Bool)) =>
                    bif decide (p8.fst < (↑x1.length : Int)) then
                      bif decide ((0 : Int) ≤ p8.fst) && decide (p8.fst < (↑x1.length : Int)) then
                        (gun_inRange N (x1.getD (Int.toNat p8.fst) z_Gun)).bind fun (r9 : Bool) =>
                          bif !r9 then some (Sum.inr (Sum.inr ((2 : Int), p8.snd)))
                          else
                            bif (p8.snd (x1.getD (Int.toNat p8.fst) z_Gun).ID).getD false then
                              some (Sum.inr (Sum.inr ((7 : Int), p8.snd)))
                            else
                              bif !(p7 (x1.getD (Int.toNat p8.fst) z_Gun).Kind).getD false then
                                some
                                  (Sum.inr
                                    (Sum.inr
                                      ((8 : Int), fun (u : Int) =>
                                        bif u == (x1.getD (Int.toNat p8.fst) z_Gun).ID then some true else p8.snd u)))
                              else
                                some
                                  (Sum.inl
                                    (IntKind.i64.wrap (p8.fst + (1 : Int)), fun (u : Int) =>
                                      bif u == (x1.getD (Int.toNat p8.fst) z_Gun).ID then some true else p8.snd u))
                      else none
                    else some (Sum.inr (Sum.inl p8.snd)))
                  ((0 : Int), fun (x : Int) => none)).bind
              fun (r10 : (Int → Option Bool) ⊕ Int × (Int → Option Bool)) =>
              Sum.elim (fun (p11 : Int → Option Bool) => some (0 : Int))
                (fun (p12 : Int × (Int → Option Bool)) => some p12.fst) r10)
          (fun (p13 : Int × (Int → Option Bool)) => some p13.fst) r6
theorem d_gun_Right (N : Nat) : DenF Try.prog 11 ⟨[.l_GunKind, .l_Gun], [.t_i64], [[none]], gun_Right N⟩ :=
  den_of (N := N) (gam := [(35, ⟨[.l_Point], [.t_bool], [[none]], gun_falling N⟩), (36, ⟨[.t_Gun], [.t_bool], [[none]], gun_inRange N⟩)]) (txt := []) (hints := [(11, [([0, 0, 1], ⟨[0, 1], [], [(.nrm, [.reg 18 .t_bool [none]])]⟩), ([0, 1, 0, 1, 1, 1], ⟨[1, 5, 20, 21], [.reg 22 .t_i64 [none], .mapr 5 .t_bool], [(.ex 0, [.mapr 5 .t_bool]), (.ret, [.reg 4 .t_i64 [none], .mapr 5 .t_bool])]⟩), ([0, 0, 1, 0, 0, 1, 1, 0, 0, 1, 0, 1, 1, 1], ⟨[1, 5, 7, 20, 21, 22], [], [(.nrm, [.reg 53 .t_bool [none]])]⟩), ([0, 1, 0, 1, 1, 1, 1, 1], ⟨[5, 8, 67, 68], [.reg 69 .t_i64 [none], .mapr 8 .t_bool], [(.ex 2, [.mapr 8 .t_bool]), (.ret, [.reg 4 .t_i64 [none], .mapr 8 .t_bool])]⟩)])]) mixed (.cons (d_gun_falling N) (.cons (d_gun_inRange N) .nil)) .nil Try.func11 (by kernel_rfl) (by kernel_rfl)

def l42_alive (N : Nat) : Option Bool :=
 
  (l42_kind N).bind fun (r0 : GunKind) =>
    (l42_off N).bind fun (r1 : Gun) =>
      (gun_Start N r1 (1899 : Int)).bind fun (r2 : Gun × Int) =>
        (l42_off N).bind fun (r3 : Gun) =>
          (gun_Start N r3 (1900 : Int)).bind fun (r4 : Gun × Int) =>
            (gun_Stop N r4.fst (2499 : Int)).bind fun (r5 : Gun × Int) =>
              (gun_Stop N r4.fst (2500 : Int)).bind fun (r6 : Gun × Int) =>
                (gun_Fail N r4.fst (2000 : Int)).bind fun (r7 : Gun × Int) =>
                  (gun_Repair N r7.fst (2100 : Int)).bind fun (r8 : Gun × Int) =>
                    (gun_Start N r8.fst (2999 : Int)).bind fun (r9 : Gun × Int) =>
                      (gun_Start N r8.fst (3000 : Int)).bind fun (r10 : Gun × Int) =>
                        (bif r2.snd != (13 : Int) then some true
                            else
                              bif r4.snd != (0 : Int) then some true
                              else
                                bif r5.snd != (13 : Int) then some true
                                else
                                  bif r6.snd != (0 : Int) then some true
                                  else
                                    bif r7.snd != (0 : Int) then some true
                                    else
                                      bif r8.snd != (0 : Int) then some true
                                      else
                                        bif r9.snd != (13 : Int) then some true
                                        else
                                          bif r10.snd != (0 : Int) then some true
                                          else
                                            (gun_Output N r0 (-60 : Int)).bind fun (r11 : Int) =>
                                              bif r11 != (175 : Int) then some true
                                              else
                                                (gun_Output N r0 (-150 : Int)).bind fun (r12 : Int) =>
                                                  bif r12 != (300 : Int) then some true
                                                  else
                                                    (gun_Output N r0 (30 : Int)).bind fun (r13 : Int) =>
                                                      some (r13 != (0 : Int))).bind
                          fun (r14 : Bool) =>
                          bif r14 then some false
                          else
                            (some [r0]).bind fun (r15 : List GunKind) =>
                              (some [r4.fst]).bind fun (r16 : List Gun) =>
                                (gun_Draws N r15 r16 (-60 : Int)).bind fun (r17 : List Draw) =>
                                  (gun_Needs N r15 r16).bind fun (r18 : List Draw) =>
                                    (bif r4.fst.State == (1 : Int) then
                                          bif r6.fst.State == (0 : Int) then
                                            bif r6.fst.Since == (2500 : Int) then
                                              bif r7.fst.State == (2 : Int) then
                                                bif r8.fst.Since == (2100 : Int) then
                                                  (some [Draw.mk (3 : Int) (175 : Int)]).bind fun (r19 : List Draw) =>
                                                    (r42_Same N r17 r19).bind fun (r20 : Bool) =>
                                                      bif r20 then
                                                        (some [Draw.mk (3 : Int) (25000 : Int)]).bind
                                                          fun (r21 : List Draw) =>
                                                          (r42_Same N r18 r21).bind fun (r22 : Bool) =>
                                                            bif r22 then
                                                              (gun_Power N r15 r16).bind fun (r23 : Int) =>
                                                                bif r23 == (20000 : Int) then
                                                                  (gun_Right N r15 r16).bind fun (r24 : Int) =>
                                                                    bif r24 == (0 : Int) then
                                                                      (gun_Right N [] r16).bind fun (r25 : Int) =>
                                                                        some (r25 == (8 : Int))
                                                                    else some false
                                                                else some false
                                                            else some false
                                                      else some false
                                                else some false
                                              else some false
                                            else some false
                                          else some false
                                        else some false).bind
                                      fun (r26 : Bool) => some r26
theorem d_l42_alive (N : Nat) : DenF Try.prog 9 ⟨[], [.t_bool], [[none]], l42_alive N⟩ :=
  den_of (N := N) (gam := [(33, ⟨[], [.t_GunKind], [[none, some 65, none, none]], l42_kind N⟩), (34, ⟨[], [.t_Gun], [[none, none, none, none, none, none, none, none]], l42_off N⟩), (14, ⟨[.t_Gun, .t_i64], [.t_Gun, .t_i64], [[none, none, none, none, none, none, none, none], [none]], gun_Start N⟩), (16, ⟨[.t_Gun, .t_i64], [.t_Gun, .t_i64], [[none, none, none, none, none, none, none, none], [none]], gun_Stop N⟩), (18, ⟨[.t_Gun, .t_i64], [.t_Gun, .t_i64], [[none, none, none, none, none, none, none, none], [none]], gun_Fail N⟩), (20, ⟨[.t_Gun, .t_i64], [.t_Gun, .t_i64], [[none, none, none, none, none, none, none, none], [none]], gun_Repair N⟩), (23, ⟨[.t_GunKind, .t_i64], [.t_i64], [[none]], gun_Output N⟩), (26, ⟨[.l_GunKind, .l_Gun, .t_i64], [.l_Draw], [[some 53]], gun_Draws N⟩), (28, ⟨[.l_GunKind, .l_Gun], [.l_Draw], [[some 53]], gun_Needs N⟩), (25, ⟨[.l_Draw, .l_Draw], [.t_bool], [[none]], r42_Same N⟩), (30, ⟨[.l_GunKind, .l_Gun], [.t_i64], [[none]], gun_Power N⟩), (11, ⟨[.l_GunKind, .l_Gun], [.t_i64], [[none]], gun_Right N⟩)]) (txt := []) (hints := [(9, [([0, 0, 1, 1, 1, 1, 1, 1, 1, 1, 1, 1], ⟨[1, 4, 8, 10, 12], [], [(.nrm, [.reg 107 .t_bool [none]])]⟩), ([0, 1, 1, 1, 1, 1, 1, 1, 1, 1, 1, 1, 1, 1], ⟨[], [], [(.nrm, [.reg 0 .t_bool [none]])]⟩)])]) mixed (.cons (d_l42_kind N) (.cons (d_l42_off N) (.cons (d_gun_Start N) (.cons (d_gun_Stop N) (.cons (d_gun_Fail N) (.cons (d_gun_Repair N) (.cons (d_gun_Output N) (.cons (d_gun_Draws N) (.cons (d_gun_Needs N) (.cons (d_r42_Same N) (.cons (d_gun_Power N) (.cons (d_gun_Right N) .nil)))))))))))) .nil Try.func9 (by kernel_rfl) (by kernel_rfl)

def l42_few (N : Nat) (x0 : Park) : Option Bool :=
 
  (bif decide ((↑x0.Kinds.length : Int) > (90 : Int)) then some true
      else some (decide ((↑x0.Guns.length : Int) > (90 : Int)))).bind
    fun (r1 : Bool) =>
    bif r1 then some false
    else
      (whileF N
            (fun (p2 : Int) =>
              bif decide (p2 < (↑x0.Kinds.length : Int)) then
                bif decide ((0 : Int) ≤ p2) && decide (p2 < (↑x0.Kinds.length : Int)) then
                  bif decide ((↑(x0.Kinds.getD p2.toNat z_GunKind).Output.length : Int) > (90 : Int)) then
                    some (Sum.inr (Sum.inr false))
                  else some (Sum.inl (IntKind.i64.wrap (p2 + (1 : Int))))
                else none
              else some (Sum.inr (Sum.inl ())))
            (0 : Int)).bind
        fun (r3 : Unit ⊕ Bool) => Sum.elim (fun (p4 : Unit) => some true) (fun (p5 : Bool) => some p5) r3
theorem d_l42_few (N : Nat) : DenF Try.prog 10 ⟨[.t_Park], [.t_bool], [[none]], l42_few N⟩ :=
  den_of (N := N) (gam := []) (txt := []) (hints := [(10, [([0, 0, 1], ⟨[1], [], [(.nrm, [.reg 13 .t_bool [none]])]⟩), ([0, 1, 0, 1, 1], ⟨[1], [.reg 3 .t_i64 [none]], [(.ex 0, []), (.ret, [.reg 2 .t_bool [none]])]⟩)])]) mixed .nil .nil Try.func10 (by kernel_rfl) (by kernel_rfl)

def r01_Within (N : Nat) (x0 x1 : Int) : Option Bool :=
 
  (bif decide (x0 ≥ IntKind.i64.wrap ((0 : Int) - x1)) then some (decide (x0 ≤ x1)) else some false).bind
    fun (r2 : Bool) => some r2
theorem d_r01_Within (N : Nat) : DenF Try.prog 56 ⟨[.t_i64, .t_i64], [.t_bool], [[none]], r01_Within N⟩ :=
  den_of (N := N) (gam := []) (txt := []) (hints := [(56, [([0, 1], ⟨[], [], [(.nrm, [.reg 4 .t_bool [none]])]⟩)])]) mixed .nil .nil Try.func56 (by kernel_rfl) (by kernel_rfl)

def r01_Points (N : Nat) (x0 : List Point) : Option Bool :=
 
  (bif decide ((↑x0.length : Int) < (1 : Int)) then some true else some (decide ((↑x0.length : Int) > (64 : Int)))).bind
    fun (r1 : Bool) =>
    bif r1 then some false
    else
      (whileF N
            (fun (p2 : Int) =>
              bif decide (p2 < (↑x0.length : Int)) then
                (bif decide ((0 : Int) ≤ p2) && decide (p2 < (↑x0.length : Int)) then
                      (r01_Within N (x0.getD p2.toNat z_Point).X (1000000000 : Int)).bind fun (r3 : Bool) =>
                        bif !r3 then some true
                        else
                          bif decide ((0 : Int) ≤ p2) && decide (p2 < (↑x0.length : Int)) then
                            (r01_Within N (x0.getD p2.toNat z_Point).Y (1000000000 : Int)).bind fun (r4 : Bool) =>
                              bif !r4 then some true
                              else
                                bif decide (p2 > (0 : Int)) then
                                  bif decide ((0 : Int) ≤ p2) && decide (p2 < (↑x0.length : Int)) then
                                    bif
                                        decide ((0 : Int) ≤ IntKind.i64.wrap (p2 - (1 : Int))) &&
                                          decide (IntKind.i64.wrap (p2 - (1 : Int)) < (↑x0.length : Int)) then
                                      some
                                        (decide
                                          ((x0.getD p2.toNat z_Point).X ≤
                                            (x0.getD (IntKind.i64.wrap (p2 - (1 : Int))).toNat z_Point).X))
                                    else none
                                  else none
                                else some false
                          else none
                    else none).bind
                  fun (r5 : Bool) =>
                  bif r5 then some (Sum.inr (Sum.inr false)) else some (Sum.inl (IntKind.i64.wrap (p2 + (1 : Int))))
              else some (Sum.inr (Sum.inl ())))
            (0 : Int)).bind
        fun (r6 : Unit ⊕ Bool) => Sum.elim (fun (p7 : Unit) => some true) (fun (p8 : Bool) => some p8) r6
theorem d_r01_Points (N : Nat) : DenF Try.prog 53 ⟨[.l_Point], [.t_bool], [[none]], r01_Points N⟩ :=
  den_of (N := N) (gam := [(56, ⟨[.t_i64, .t_i64], [.t_bool], [[none]], r01_Within N⟩)]) (txt := []) (hints := [(53, [([0, 0, 1], ⟨[0], [], [(.nrm, [.reg 11 .t_bool [none]])]⟩), ([0, 1, 0, 1, 1], ⟨[0], [.reg 3 .t_i64 [none]], [(.ex 0, []), (.ret, [.reg 2 .t_bool [none]])]⟩), ([0, 0, 0, 1, 0, 0, 1, 0, 1, 1], ⟨[0, 3], [], [(.nrm, [.reg 51 .t_bool [none]])]⟩)])]) mixed (.cons (d_r01_Within N) .nil) .nil Try.func53 (by kernel_rfl) (by kernel_rfl)

def r01_Floor (N : Nat) (x0 x1 : Int) : Option Int :=
 
  bif x1 != (0 : Int) then
    bif x1 != (0 : Int) then
      bif decide (x0.tmod x1 < (0 : Int)) then some (IntKind.i64.wrap (IntKind.i64.wrap (x0.tdiv x1) - (1 : Int)))
      else some (IntKind.i64.wrap (x0.tdiv x1))
    else none
  else none
theorem d_r01_Floor (N : Nat) : DenF Try.prog 54 ⟨[.t_i64, .t_i64], [.t_i64], [[none]], r01_Floor N⟩ :=
  den_of (N := N) (gam := []) (txt := []) (hints := []) mixed .nil .nil Try.func54 (by kernel_rfl) (by kernel_rfl)

def r01_At (N : Nat) (x0 : List Point) (x1 : Int) : Option (Int × Int) :=
 
  (r01_Points N x0).bind fun (r2 : Bool) =>
    bif !r2 then some ((0 : Int), (1 : Int))
    else
      bif
          decide ((0 : Int) ≤ IntKind.i64.wrap ((↑x0.length : Int) - (1 : Int))) &&
            decide (IntKind.i64.wrap ((↑x0.length : Int) - (1 : Int)) < (↑x0.length : Int)) then
        bif true && decide ((0 : Int) < (↑x0.length : Int)) then
          bif decide (x1 ≤ (x0.getD 0 z_Point).X) then
            bif true && decide ((0 : Int) < (↑x0.length : Int)) then some ((x0.getD 0 z_Point).Y, (0 : Int))
            else none
          else
            bif decide (x1 ≥ (x0.getD (IntKind.i64.wrap ((↑x0.length : Int) - (1 : Int))).toNat z_Point).X) then
              some ((x0.getD (IntKind.i64.wrap ((↑x0.length : Int) - (1 : Int))).toNat z_Point).Y, (0 : Int))
            else
              (whileF N
                    (fun (p3 : Int) =>
                      bif
                          decide ((0 : Int) ≤ IntKind.i64.wrap (p3 + (1 : Int))) &&
                            decide (IntKind.i64.wrap (p3 + (1 : Int)) < (↑x0.length : Int)) then
                        bif decide ((x0.getD (IntKind.i64.wrap (p3 + (1 : Int))).toNat z_Point).X ≤ x1) then
                          some (Sum.inl (IntKind.i64.wrap (p3 + (1 : Int))))
                        else some (Sum.inr p3)
                      else none)
                    (0 : Int)).bind
                fun (r4 : Int) =>
                bif decide ((0 : Int) ≤ r4) && decide (r4 < (↑x0.length : Int)) then
                  bif
                      decide ((0 : Int) ≤ IntKind.i64.wrap (r4 + (1 : Int))) &&
                        decide (IntKind.i64.wrap (r4 + (1 : Int)) < (↑x0.length : Int)) then
                    (r01_Floor N
                          (IntKind.i64.wrap
                            (IntKind.i64.wrap
                                ((x0.getD (IntKind.i64.wrap (r4 + (1 : Int))).toNat z_Point).Y -
                                  (x0.getD r4.toNat z_Point).Y) *
                              IntKind.i64.wrap (x1 - (x0.getD r4.toNat z_Point).X)))
                          (IntKind.i64.wrap
                            ((x0.getD (IntKind.i64.wrap (r4 + (1 : Int))).toNat z_Point).X -
                              (x0.getD r4.toNat z_Point).X))).bind
                      fun (r5 : Int) => some (IntKind.i64.wrap ((x0.getD r4.toNat z_Point).Y + r5), (0 : Int))
                  else none
                else none
        else none
      else none
theorem d_r01_At (N : Nat) : DenF Try.prog 45 ⟨[.l_Point, .t_i64], [.t_i64, .t_i64], [[none], [none]], r01_At N⟩ :=
  den_of (N := N) (gam := [(53, ⟨[.l_Point], [.t_bool], [[none]], r01_Points N⟩), (54, ⟨[.t_i64, .t_i64], [.t_i64], [[none]], r01_Floor N⟩)]) (txt := []) (hints := [(45, [([0, 0, 1, 1, 1, 1, 1, 1], ⟨[0, 1], [.reg 7 .t_i64 [none]], [(.ex 0, [.reg 7 .t_i64 [none]])]⟩)])]) mixed (.cons (d_r01_Points N) (.cons (d_r01_Floor N) .nil)) .nil Try.func45 (by kernel_rfl) (by kernel_rfl)

def r42_kind (N : Nat) (x0 : List GunKind) (x1 : Int) : Option Int :=
 
  bif decide ((0 : Int) ≤ x1) && decide (x1 < (↑x0.length : Int)) then
    (bif decide ((x0.getD x1.toNat z_GunKind).ID < (1 : Int)) then some true
        else
          bif decide ((x0.getD x1.toNat z_GunKind).ID > (9999 : Int)) then some true
          else
            bif decide ((x0.getD x1.toNat z_GunKind).Power < (0 : Int)) then some true
            else
              bif decide ((x0.getD x1.toNat z_GunKind).Power > (1000000 : Int)) then some true
              else
                bif decide ((x0.getD x1.toNat z_GunKind).Pressure < (0 : Int)) then some true
                else some (decide ((x0.getD x1.toNat z_GunKind).Pressure > (1000000 : Int)))).bind
      fun (r2 : Bool) =>
      bif r2 then some (2 : Int)
      else
        (whileF N
              (fun (p3 : Int) =>
                bif decide (p3 < x1) then
                  bif decide ((0 : Int) ≤ p3) && decide (p3 < (↑x0.length : Int)) then
                    bif (x0.getD p3.toNat z_GunKind).ID == (x0.getD x1.toNat z_GunKind).ID then
                      some (Sum.inr (Sum.inr (7 : Int)))
                    else some (Sum.inl (IntKind.i64.wrap (p3 + (1 : Int))))
                  else none
                else some (Sum.inr (Sum.inl ())))
              (0 : Int)).bind
          fun (r4 : Unit ⊕ Int) =>
          Sum.elim
            (fun (p5 : Unit) =>
              (r01_At N (x0.getD x1.toNat z_GunKind).Output (0 : Int)).bind fun (r6 : Int × Int) =>
                bif r6.snd != (0 : Int) then some (1 : Int)
                else
                  (whileF N
                        (fun (p7 : Int) =>
                          bif decide (p7 < (↑(x0.getD x1.toNat z_GunKind).Output.length : Int)) then
                            (bif
                                    decide ((0 : Int) ≤ p7) &&
                                      decide (p7 < (↑(x0.getD x1.toNat z_GunKind).Output.length : Int)) then
                                  bif
                                      decide
                                        (((x0.getD x1.toNat z_GunKind).Output.getD p7.toNat z_Point).Y < (0 : Int)) then
                                    some true
                                  else
                                    bif
                                        decide ((0 : Int) ≤ p7) &&
                                          decide (p7 < (↑(x0.getD x1.toNat z_GunKind).Output.length : Int)) then
                                      bif
                                          decide
                                            (((x0.getD x1.toNat z_GunKind).Output.getD p7.toNat z_Point).Y >
                                              (10000 : Int)) then
                                        some true
                                      else
                                        bif decide (p7 > (0 : Int)) then
                                          bif
                                              decide ((0 : Int) ≤ p7) &&
                                                decide (p7 < (↑(x0.getD x1.toNat z_GunKind).Output.length : Int)) then
                                            bif
                                                decide ((0 : Int) ≤ IntKind.i64.wrap (p7 - (1 : Int))) &&
                                                  decide
                                                    (IntKind.i64.wrap (p7 - (1 : Int)) <
                                                      (↑(x0.getD x1.toNat z_GunKind).Output.length : Int)) then
                                              some
                                                (decide
                                                  (((x0.getD x1.toNat z_GunKind).Output.getD p7.toNat z_Point).Y >
                                                    ((x0.getD x1.toNat z_GunKind).Output.getD
                                                        (IntKind.i64.wrap (p7 - (1 : Int))).toNat z_Point).Y))
                                            else none
                                          else none
                                        else some false
                                    else none
                                else none).bind
                              fun (r8 : Bool) =>
                              bif r8 then some (Sum.inr (Sum.inr (1 : Int)))
                              else some (Sum.inl (IntKind.i64.wrap (p7 + (1 : Int))))
                          else some (Sum.inr (Sum.inl ())))
                        (0 : Int)).bind
                    fun (r9 : Unit ⊕ Int) =>
                    Sum.elim (fun (p10 : Unit) => some (0 : Int)) (fun (p11 : Int) => some p11) r9)
            (fun (p12 : Int) => some p12) r4
  else none
theorem d_r42_kind (N : Nat) : DenF Try.prog 37 ⟨[.l_GunKind, .t_i64], [.t_i64], [[none]], r42_kind N⟩ :=
  den_of (N := N) (gam := [(45, ⟨[.l_Point, .t_i64], [.t_i64, .t_i64], [[none], [none]], r01_At N⟩)]) (txt := []) (hints := [(37, [([0, 0, 1, 1], ⟨[0, 1, 5], [], [(.nrm, [.reg 41 .t_bool [none]])]⟩), ([0, 1, 0, 1, 1, 1], ⟨[0, 1, 5], [.reg 6 .t_i64 [none]], [(.ex 0, []), (.ret, [.reg 4 .t_i64 [none]])]⟩), ([0, 1, 0, 1, 1, 1, 1, 1], ⟨[5], [.reg 9 .t_i64 [none]], [(.ex 2, []), (.ret, [.reg 4 .t_i64 [none]])]⟩), ([0, 0, 0, 1, 0, 0, 1, 0, 1, 1, 1, 1, 1], ⟨[5, 9], [], [(.nrm, [.reg 105 .t_bool [none]])]⟩)])]) mixed (.cons (d_r01_At N) .nil) .nil Try.func37 (by kernel_rfl) (by kernel_rfl)

def r42_id (N : Nat) (x0 : Int) : Option Bool :=
 
  (bif decide (x0 ≥ (1 : Int)) then some (decide (x0 ≤ (9999 : Int))) else some false).bind fun (r1 : Bool) => some r1
theorem d_r42_id (N : Nat) : DenF Try.prog 38 ⟨[.t_i64], [.t_bool], [[none]], r42_id N⟩ :=
  den_of (N := N) (gam := []) (txt := []) (hints := [(38, [([0, 1], ⟨[], [], [(.nrm, [.reg 2 .t_bool [none]])]⟩)])]) mixed .nil .nil Try.func38 (by kernel_rfl) (by kernel_rfl)

def r42_day (N : Nat) (x0 : Int) : Option Bool :=
 
  (bif decide (x0 ≥ (0 : Int)) then some (decide (x0 ≤ (86400 : Int))) else some false).bind fun (r1 : Bool) => some r1
theorem d_r42_day (N : Nat) : DenF Try.prog 39 ⟨[.t_i64], [.t_bool], [[none]], r42_day N⟩ :=
  den_of (N := N) (gam := []) (txt := []) (hints := [(39, [([0, 1], ⟨[], [], [(.nrm, [.reg 2 .t_bool [none]])]⟩)])]) mixed .nil .nil Try.func39 (by kernel_rfl) (by kernel_rfl)
end Go.Proofs.Ytenjellgjcofaaa
