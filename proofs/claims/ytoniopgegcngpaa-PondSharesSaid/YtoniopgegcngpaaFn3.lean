/- Written by a program (gen.py, asm.py): what each function computes, as a plain function, and that its text computes it. No condition. -/
import Derived.Test.YtoniopgegcngpaaFn2
import Derived.Test.YtoniopgegcngpaaCmo
namespace Go.Proofs.Ytoniopgegcngpaa
open Go.Cm Go.Proofs
set_option linter.unusedVariables false
set_option maxRecDepth 100000

def l39_PondTakes (N : Nat) (x0 : List Pond) (x1 : Int) : Option Bool :=
 
  (l39_alive N).bind fun (r2 : Bool) =>
    bif !r2 then some false
    else
      (l39_right N x0).bind fun (r3 : Bool) =>
        bif !r3 then some true
        else
          (pond_Take N x0 x1).bind fun (r4 : List Pond × Int) =>
            (r39_Take N x0 x1).bind fun (r5 : List Pond × Int) =>
              ((r39_Same N r4.fst r5.fst).bind fun (r6 : Bool) =>
                    bif r6 then some (r4.snd == r5.snd) else some false).bind
                fun (r7 : Bool) => some r7
theorem d_l39_PondTakes (N : Nat) : DenF Try.prog 4 ⟨[.l_Pond, .t_i64], [.t_bool], [[none]], l39_PondTakes N⟩ :=
  den_of (N := N) (gam := [(9, ⟨[], [.t_bool], [[none]], l39_alive N⟩), (12, ⟨[.l_Pond], [.t_bool], [[none]], l39_right N⟩), (17, ⟨[.l_Pond, .t_i64], [.l_Pond, .t_i64], [[some 38], [none]], pond_Take N⟩), (18, ⟨[.l_Pond, .t_i64], [.l_Pond, .t_i64], [[some 38], [none]], r39_Take N⟩), (19, ⟨[.l_Pond, .l_Pond], [.t_bool], [[none]], r39_Same N⟩)]) (txt := []) (hints := [(4, [([0, 1, 1, 1, 1, 1], ⟨[], [], [(.nrm, [.reg 4 .t_bool [none]])], []⟩)])]) mixed (.cons (d_l39_alive N) (.cons (d_l39_right N) (.cons (d_pond_Take N) (.cons (d_r39_Take N) (.cons (d_r39_Same N) .nil))))) .nil Try.func4 (by kernel_rfl) (by kernel_rfl)

def r39_Fill (N : Nat) (x0 : List Pond) (x1 : Int) : Option ((List Pond) × Int × Int) :=
 
  (bif decide (x1 < (0 : Int)) then some true else some (decide (x1 > (86400 : Int)))).bind fun (r2 : Bool) =>
    bif r2 then some ([], (0 : Int), (2 : Int))
    else
      (whileF N
            (fun (p3 : List Pond × Int × Int) =>
              bif decide (p3.snd.snd < (↑x0.length : Int)) then
                bif decide ((0 : Int) ≤ p3.snd.snd) && decide (p3.snd.snd < (↑x0.length : Int)) then
                  (some
                        [Pond.mk (x0.getD (Int.toNat p3.snd.snd) z_Pond).ID
                            (IntKind.i64.wrap
                              ((x0.getD (Int.toNat p3.snd.snd) z_Pond).Volume +
                                min
                                  (IntKind.i64.wrap
                                    ((IntKind.i64.wrap ((x0.getD (Int.toNat p3.snd.snd) z_Pond).Inflow * x1)).tdiv
                                      (3600 : Int)))
                                  (IntKind.i64.wrap
                                    ((x0.getD (Int.toNat p3.snd.snd) z_Pond).Most -
                                      (x0.getD (Int.toNat p3.snd.snd) z_Pond).Volume))))
                            (x0.getD (Int.toNat p3.snd.snd) z_Pond).Least (x0.getD (Int.toNat p3.snd.snd) z_Pond).Most
                            (x0.getD (Int.toNat p3.snd.snd) z_Pond).Inflow]).bind
                    fun (r4 : List Pond) =>
                    bif decide ((List.length p3.fst + r4.length) * 40 ≤ 140737488355328) then
                      (some (p3.fst ++ r4)).bind fun (r5 : List Pond) =>
                        some
                          (Sum.inl
                            (r5,
                              IntKind.i64.wrap
                                (p3.snd.fst +
                                  min
                                    (IntKind.i64.wrap
                                      ((IntKind.i64.wrap ((x0.getD (Int.toNat p3.snd.snd) z_Pond).Inflow * x1)).tdiv
                                        (3600 : Int)))
                                    (IntKind.i64.wrap
                                      ((x0.getD (Int.toNat p3.snd.snd) z_Pond).Most -
                                        (x0.getD (Int.toNat p3.snd.snd) z_Pond).Volume))),
                              IntKind.i64.wrap (p3.snd.snd + (1 : Int))))
                    else none
                else none
              else some (Sum.inr (p3.fst, p3.snd.fst)))
            ([], (0 : Int), (0 : Int))).bind
        fun (r6 : List Pond × Int) => some (r6.fst, r6.snd, (0 : Int))
theorem d_r39_Fill (N : Nat) : DenF Try.prog 21 ⟨[.l_Pond, .t_i64], [.l_Pond, .t_i64, .t_i64], [[some 38], [none], [none]], r39_Fill N⟩ :=
  den_of (N := N) (gam := []) (txt := []) (hints := [(21, [([0, 0, 1], ⟨[0, 1], [], [(.nrm, [.reg 17 .t_bool [none]])], []⟩), ([0, 1, 0, 1, 1, 1, 1], ⟨[0, 1], [.reg 7 .l_Pond [some 38], .reg 8 .t_i64 [none], .reg 9 .t_i64 [none]], [(.ex 0, [.reg 7 .l_Pond [some 38], .reg 8 .t_i64 [none]])], []⟩)])]) mixed .nil .nil Try.func21 (by kernel_rfl) (by kernel_rfl)

def l39_PondFills (N : Nat) (x0 : List Pond) (x1 : Int) : Option Bool :=
 
  (l39_alive N).bind fun (r2 : Bool) =>
    bif !r2 then some false
    else
      (l39_right N x0).bind fun (r3 : Bool) =>
        bif !r3 then some true
        else
          (pond_Fill N x0 x1).bind fun (r4 : List Pond × Int × Int) =>
            (r39_Fill N x0 x1).bind fun (r5 : List Pond × Int × Int) =>
              ((r39_Same N r4.fst r5.fst).bind fun (r6 : Bool) =>
                    bif r6 then bif r4.snd.fst == r5.snd.fst then some (r4.snd.snd == r5.snd.snd) else some false
                    else some false).bind
                fun (r7 : Bool) => some r7
theorem d_l39_PondFills (N : Nat) : DenF Try.prog 5 ⟨[.l_Pond, .t_i64], [.t_bool], [[none]], l39_PondFills N⟩ :=
  den_of (N := N) (gam := [(9, ⟨[], [.t_bool], [[none]], l39_alive N⟩), (12, ⟨[.l_Pond], [.t_bool], [[none]], l39_right N⟩), (20, ⟨[.l_Pond, .t_i64], [.l_Pond, .t_i64, .t_i64], [[some 38], [none], [none]], pond_Fill N⟩), (21, ⟨[.l_Pond, .t_i64], [.l_Pond, .t_i64, .t_i64], [[some 38], [none], [none]], r39_Fill N⟩), (19, ⟨[.l_Pond, .l_Pond], [.t_bool], [[none]], r39_Same N⟩)]) (txt := []) (hints := [(5, [([0, 1, 1, 1, 1, 1], ⟨[], [], [(.nrm, [.reg 4 .t_bool [none]])], []⟩)])]) mixed (.cons (d_l39_alive N) (.cons (d_l39_right N) (.cons (d_pond_Fill N) (.cons (d_r39_Fill N) (.cons (d_r39_Same N) .nil))))) .nil Try.func5 (by kernel_rfl) (by kernel_rfl)

def l39_PondVolumes (N : Nat) (x0 : List Pond) (x1 : List Op) : Option Bool :=
 
  (l39_alive N).bind fun (r2 : Bool) =>
    bif !r2 then some false
    else
      ((l39_right N x0).bind fun (r3 : Bool) =>
            bif !r3 then some true else some (decide ((↑x1.length : Int) > (60 : Int)))).bind
        fun (r4 : Bool) =>
        bif r4 then some true
        else
          (pond_Total N x0).bind fun (r5 : Int) =>
            (whileF N
                  (fun (p6 : List Pond × Int × Int) =>
                    bif decide (p6.snd.snd < (↑x1.length : Int)) then
                      bif decide ((0 : Int) ≤ p6.snd.snd) && decide (p6.snd.snd < (↑x1.length : Int)) then
                        (bif (x1.getD (Int.toNat p6.snd.snd) z_Op).Fill then
                              bif decide ((0 : Int) ≤ p6.snd.snd) && decide (p6.snd.snd < (↑x1.length : Int)) then
                                (pond_Fill N p6.fst (x1.getD (Int.toNat p6.snd.snd) z_Op).N).bind
                                  fun (r7 : List Pond × Int × Int) =>
                                  (bif r7.snd.snd == (0 : Int) then
                                        some (r7.fst, IntKind.i64.wrap (p6.snd.fst + r7.snd.fst))
                                      else some (p6.fst, p6.snd.fst)).bind
                                    fun (r8 : List Pond × Int) => some r8
                              else none
                            else
                              bif decide ((0 : Int) ≤ p6.snd.snd) && decide (p6.snd.snd < (↑x1.length : Int)) then
                                (pond_Take N p6.fst (x1.getD (Int.toNat p6.snd.snd) z_Op).N).bind
                                  fun (r9 : List Pond × Int) =>
                                  (bif r9.snd == (0 : Int) then
                                        bif
                                            decide ((0 : Int) ≤ p6.snd.snd) &&
                                              decide (p6.snd.snd < (↑x1.length : Int)) then
                                          some
                                            (r9.fst,
                                              IntKind.i64.wrap (p6.snd.fst - (x1.getD (Int.toNat p6.snd.snd) z_Op).N))
                                        else none
                                      else some (p6.fst, p6.snd.fst)).bind
                                    fun (r10 : List Pond × Int) => some r10
                              else none).bind
                          fun (r11 : List Pond × Int) =>
                          (bif (↑(List.length r11.fst) : Int) != (↑x0.length : Int) then some true
                              else
                                (pond_Total N r11.fst).bind fun (r12 : Int) =>
                                  bif r12 != r11.snd then some true
                                  else (pond_Right N r11.fst).bind fun (r13 : Int) => some (r13 != (0 : Int))).bind
                            fun (r14 : Bool) =>
                            bif r14 then some (Sum.inr (Sum.inr false))
                            else
                              (whileF N
                                    (fun (p15 : Int) =>
                                      bif decide (p15 < (↑(List.length r11.fst) : Int)) then
                                        bif decide ((0 : Int) ≤ p15) && decide (p15 < (↑x0.length : Int)) then
                                          bif
                                              decide ((0 : Int) ≤ p15) &&
                                                decide (p15 < (↑(List.length r11.fst) : Int)) then
                                            (bif
                                                    decide ((0 : Int) ≤ p15) &&
                                                      decide (p15 < (↑(List.length r11.fst) : Int)) then
                                                  bif
                                                      !((List.getD r11.fst p15.toNat z_Pond).ID ==
                                                            (x0.getD p15.toNat z_Pond).ID &&
                                                          ((List.getD r11.fst p15.toNat z_Pond).Volume ==
                                                              (List.getD r11.fst p15.toNat z_Pond).Volume &&
                                                            ((List.getD r11.fst p15.toNat z_Pond).Least ==
                                                                (x0.getD p15.toNat z_Pond).Least &&
                                                              ((List.getD r11.fst p15.toNat z_Pond).Most ==
                                                                  (x0.getD p15.toNat z_Pond).Most &&
                                                                ((List.getD r11.fst p15.toNat z_Pond).Inflow ==
                                                                    (x0.getD p15.toNat z_Pond).Inflow &&
                                                                  true))))) then
                                                    some true
                                                  else
                                                    bif
                                                        decide
                                                          ((List.getD r11.fst p15.toNat z_Pond).Volume <
                                                            (x0.getD p15.toNat z_Pond).Least) then
                                                      some true
                                                    else
                                                      some
                                                        (decide
                                                          ((List.getD r11.fst p15.toNat z_Pond).Volume >
                                                            (x0.getD p15.toNat z_Pond).Most))
                                                else none).bind
                                              fun (r16 : Bool) =>
                                              bif r16 then some (Sum.inr (Sum.inr false))
                                              else some (Sum.inl (IntKind.i64.wrap (p15 + (1 : Int))))
                                          else none
                                        else none
                                      else some (Sum.inr (Sum.inl ())))
                                    (0 : Int)).bind
                                fun (r17 : Unit ⊕ Bool) =>
                                Sum.elim
                                  (fun (p18 : Unit) =>
                                    some (Sum.inl (r11.fst, r11.snd, IntKind.i64.wrap (p6.snd.snd + (1 : Int)))))
                                  (fun (p19 : Bool) => some (Sum.inr (Sum.inr p19))) r17
                      else none
                    else some (Sum.inr (Sum.inl ())))
                  (x0, r5, (0 : Int))).bind
              fun (r20 : Unit ⊕ Bool) => Sum.elim (fun (p21 : Unit) => some true) (fun (p22 : Bool) => some p22) r20
theorem d_l39_PondVolumes (N : Nat) : DenF Try.prog 6 ⟨[.l_Pond, .l_Op], [.t_bool], [[none]], l39_PondVolumes N⟩ :=
  den_of (N := N) (gam := [(9, ⟨[], [.t_bool], [[none]], l39_alive N⟩), (12, ⟨[.l_Pond], [.t_bool], [[none]], l39_right N⟩), (15, ⟨[.l_Pond], [.t_i64], [[none]], pond_Total N⟩), (20, ⟨[.l_Pond, .t_i64], [.l_Pond, .t_i64, .t_i64], [[some 38], [none], [none]], pond_Fill N⟩), (17, ⟨[.l_Pond, .t_i64], [.l_Pond, .t_i64], [[some 38], [none]], pond_Take N⟩), (10, ⟨[.l_Pond], [.t_i64], [[none]], pond_Right N⟩)]) (txt := []) (hints := [(6, [([0, 0, 1, 1], ⟨[0, 1], [], [(.nrm, [.reg 24 .t_bool [none]])], []⟩), ([0, 1, 0, 1, 1, 1, 1, 1], ⟨[1, 6], [.reg 0 .l_Pond [none], .reg 5 .t_i64 [none], .reg 7 .t_i64 [none]], [(.ex 0, []), (.ret, [.reg 4 .t_bool [none]])], []⟩), ([1, 0, 0, 0, 1, 0, 0, 1, 0, 1, 1, 1, 1, 1], ⟨[1, 6, 7], [], [(.nrm, [.reg 0 .l_Pond [none], .reg 5 .t_i64 [none]])], []⟩), ([1, 1, 0, 1, 0, 0, 0, 1, 0, 0, 1, 0, 1, 1, 1, 1, 1], ⟨[1, 6, 7], [], [(.nrm, [.reg 0 .l_Pond [none], .reg 5 .t_i64 [none]])], [8]⟩), ([1, 1, 1, 1, 0, 0, 0, 1, 0, 0, 1, 0, 1, 1, 1, 1, 1], ⟨[1, 6, 7], [], [(.nrm, [.reg 0 .l_Pond [none], .reg 5 .t_i64 [none]])], [11]⟩), ([0, 0, 1, 0, 0, 1, 0, 0, 1, 0, 1, 1, 1, 1, 1], ⟨[0, 1, 5, 6, 7], [], [(.nrm, [.reg 91 .t_bool [none]])], []⟩), ([0, 1, 1, 1, 0, 0, 1, 0, 0, 1, 0, 1, 1, 1, 1, 1], ⟨[0, 1, 5, 6, 7], [.reg 13 .t_i64 [none]], [(.ex 2, []), (.ret, [.reg 4 .t_bool [none]])], []⟩), ([0, 1, 1, 0, 0, 1, 0, 0, 1, 1, 1, 0, 0, 1, 0, 0, 1, 0, 1, 1, 1, 1, 1], ⟨[0, 1, 5, 6, 7, 13], [], [(.nrm, [.reg 127 .t_bool [none]])], []⟩)])]) mixed (.cons (d_l39_alive N) (.cons (d_l39_right N) (.cons (d_pond_Total N) (.cons (d_pond_Fill N) (.cons (d_pond_Take N) (.cons (d_pond_Right N) .nil)))))) .nil Try.func6 (by kernel_rfl) (by kernel_rfl)

def r34_Fair (N : Nat) (x0 : Int) (x1 x2 : List Int) : Option Bool :=
 
  bif (↑x2.length : Int) != (↑x1.length : Int) then some false
  else
    (whileF N
          (fun (p3 : Int) =>
            bif decide (p3 < (↑x2.length : Int)) then
              bif decide ((0 : Int) ≤ p3) && decide (p3 < (↑x1.length : Int)) then
                (r34_sum N x1).bind fun (r4 : Int) =>
                  (r34_Quotient N x0 (x1.getD p3.toNat (0 : Int)) r4).bind fun (r5 : Int × Int) =>
                    (bif decide ((0 : Int) ≤ p3) && decide (p3 < (↑x2.length : Int)) then
                          bif x2.getD p3.toNat (0 : Int) != r5.fst then
                            bif r5.snd == (0 : Int) then some true
                            else
                              bif decide ((0 : Int) ≤ p3) && decide (p3 < (↑x2.length : Int)) then
                                some (x2.getD p3.toNat (0 : Int) != IntKind.i64.wrap (r5.fst + (1 : Int)))
                              else none
                          else some false
                        else none).bind
                      fun (r6 : Bool) =>
                      bif r6 then some (Sum.inr (Sum.inr false)) else some (Sum.inl (IntKind.i64.wrap (p3 + (1 : Int))))
              else none
            else some (Sum.inr (Sum.inl ())))
          (0 : Int)).bind
      fun (r7 : Unit ⊕ Bool) =>
      Sum.elim (fun (p8 : Unit) => (r34_sum N x2).bind fun (r9 : Int) => some (r9 == x0)) (fun (p10 : Bool) => some p10)
        r7
theorem d_r34_Fair (N : Nat) : DenF Try.prog 22 ⟨[.t_i64, .l_i64, .l_i64], [.t_bool], [[none]], r34_Fair N⟩ :=
  den_of (N := N) (gam := [(28, ⟨[.l_i64], [.t_i64], [[none]], r34_sum N⟩), (27, ⟨[.t_i64, .t_i64, .t_i64], [.t_i64, .t_i64], [[none], [none]], r34_Quotient N⟩)]) (txt := []) (hints := [(22, [([0, 1, 0, 1, 1], ⟨[0, 1, 2], [.reg 7 .t_i64 [none]], [(.ex 0, []), (.ret, [.reg 6 .t_bool [none]])], []⟩), ([0, 1, 0, 0, 1, 0, 0, 1, 0, 1, 1], ⟨[0, 1, 2, 7], [], [(.nrm, [.reg 50 .t_bool [none]])], []⟩)])]) mixed (.cons (d_r34_sum N) (.cons (d_r34_Quotient N) .nil)) .nil Try.func22 (by kernel_rfl) (by kernel_rfl)

def l39_PondShares (N : Nat) (x0 : List Pond) (x1 : Int) : Option Bool :=
 
  (l39_alive N).bind fun (r2 : Bool) =>
    bif !r2 then some false
    else
      (l39_right N x0).bind fun (r3 : Bool) =>
        bif !r3 then some true
        else
          (pond_Spare N x0).bind fun (r4 : Int) =>
            (pond_Take N x0 r4).bind fun (r5 : List Pond × Int) =>
              (bif r5.snd != (0 : Int) then some true
                  else
                    bif (↑(List.length r5.fst) : Int) != (↑x0.length : Int) then some true
                    else (pond_Spare N r5.fst).bind fun (r6 : Int) => some (r6 != (0 : Int))).bind
                fun (r7 : Bool) =>
                bif r7 then some false
                else
                  (pond_Take N r5.fst (1 : Int)).bind fun (r8 : List Pond × Int) =>
                    bif r8.snd != (9 : Int) then some false
                    else
                      (pond_Take N x0 x1).bind fun (r9 : List Pond × Int) =>
                        (bif decide (x1 ≤ (0 : Int)) then some true else some (decide (x1 > r4))).bind
                          fun (r10 : Bool) =>
                          bif r10 then
                            (bif x1 == (0 : Int) then
                                  bif r9.snd == (0 : Int) then
                                    (r39_Same N r9.fst x0).bind fun (r11 : Bool) =>
                                      bif r11 then some true
                                      else bif x1 != (0 : Int) then some (r9.snd != (0 : Int)) else some false
                                  else bif x1 != (0 : Int) then some (r9.snd != (0 : Int)) else some false
                                else bif x1 != (0 : Int) then some (r9.snd != (0 : Int)) else some false).bind
                              fun (r12 : Bool) => some r12
                          else
                            (whileF N
                                  (fun (p13 : List Int × List Int × Int) =>
                                    bif decide (p13.snd.snd < (↑x0.length : Int)) then
                                      (bif decide (p13.snd.snd ≥ (↑(List.length r9.fst) : Int)) then some true
                                          else
                                            bif
                                                decide ((0 : Int) ≤ p13.snd.snd) &&
                                                  decide (p13.snd.snd < (↑(List.length r9.fst) : Int)) then
                                              bif
                                                  decide ((0 : Int) ≤ p13.snd.snd) &&
                                                    decide (p13.snd.snd < (↑x0.length : Int)) then
                                                bif
                                                    decide
                                                      ((List.getD r9.fst (Int.toNat p13.snd.snd) z_Pond).Volume <
                                                        (x0.getD (Int.toNat p13.snd.snd) z_Pond).Least) then
                                                  some true
                                                else
                                                  bif
                                                      decide ((0 : Int) ≤ p13.snd.snd) &&
                                                        decide (p13.snd.snd < (↑(List.length r5.fst) : Int)) then
                                                    bif
                                                        decide ((0 : Int) ≤ p13.snd.snd) &&
                                                          decide (p13.snd.snd < (↑x0.length : Int)) then
                                                      some
                                                        ((List.getD r5.fst (Int.toNat p13.snd.snd) z_Pond).Volume !=
                                                          (x0.getD (Int.toNat p13.snd.snd) z_Pond).Least)
                                                    else none
                                                  else none
                                              else none
                                            else none).bind
                                        fun (r14 : Bool) =>
                                        bif r14 then some (Sum.inr (Sum.inr false))
                                        else
                                          bif
                                              decide ((0 : Int) ≤ p13.snd.snd) &&
                                                decide (p13.snd.snd < (↑x0.length : Int)) then
                                            bif
                                                decide ((0 : Int) ≤ p13.snd.snd) &&
                                                  decide (p13.snd.snd < (↑x0.length : Int)) then
                                              (some
                                                    [IntKind.i64.wrap
                                                        ((x0.getD (Int.toNat p13.snd.snd) z_Pond).Volume -
                                                          (x0.getD (Int.toNat p13.snd.snd) z_Pond).Least)]).bind
                                                fun (r15 : List Int) =>
                                                bif
                                                    decide
                                                      ((List.length p13.fst + r15.length) * 8 ≤
                                                        140737488355328) then
                                                  (some (p13.fst ++ r15)).bind fun (r16 : List Int) =>
                                                    bif
                                                        decide ((0 : Int) ≤ p13.snd.snd) &&
                                                          decide (p13.snd.snd < (↑x0.length : Int)) then
                                                      bif
                                                          decide ((0 : Int) ≤ p13.snd.snd) &&
                                                            decide (p13.snd.snd < (↑(List.length r9.fst) : Int)) then
                                                        (some
                                                              [IntKind.i64.wrap
                                                                  ((x0.getD (Int.toNat p13.snd.snd) z_Pond).Volume -
                                                                    (List.getD r9.fst (Int.toNat p13.snd.snd)
                                                                        z_Pond).Volume)]).bind
                                                          fun (r17 : List Int) =>
                                                          bif
                                                              decide
                                                                ((List.length p13.snd.fst + r17.length) * 8 ≤
                                                                  140737488355328) then
                                                            (some (p13.snd.fst ++ r17)).bind fun (r18 : List Int) =>
                                                              some
                                                                (Sum.inl
                                                                  (r16, r18,
                                                                    IntKind.i64.wrap (p13.snd.snd + (1 : Int))))
                                                          else none
                                                      else none
                                                    else none
                                                else none
                                            else none
                                          else none
                                    else some (Sum.inr (Sum.inl (p13.fst, p13.snd.fst))))
                                  ([], [], (0 : Int))).bind
                              fun (r19 : List Int × List Int ⊕ Bool) =>
                              Sum.elim
                                (fun (p20 : List Int × List Int) =>
                                  (bif r9.snd == (0 : Int) then
                                        (r34_Fair N x1 p20.fst p20.snd).bind fun (r21 : Bool) => some r21
                                      else some false).bind
                                    fun (r22 : Bool) => some r22)
                                (fun (p23 : Bool) => some p23) r19
theorem d_l39_PondShares (N : Nat) : DenF Try.prog 7 ⟨[.l_Pond, .t_i64], [.t_bool], [[none]], l39_PondShares N⟩ :=
  den_of (N := N) (gam := [(9, ⟨[], [.t_bool], [[none]], l39_alive N⟩), (12, ⟨[.l_Pond], [.t_bool], [[none]], l39_right N⟩), (13, ⟨[.l_Pond], [.t_i64], [[none]], pond_Spare N⟩), (17, ⟨[.l_Pond, .t_i64], [.l_Pond, .t_i64], [[some 38], [none]], pond_Take N⟩), (19, ⟨[.l_Pond, .l_Pond], [.t_bool], [[none]], r39_Same N⟩), (22, ⟨[.t_i64, .l_i64, .l_i64], [.t_bool], [[none]], r34_Fair N⟩)]) (txt := []) (hints := [(7, [([0, 0, 1, 1, 1, 1, 1], ⟨[0, 1, 5, 6], [], [(.nrm, [.reg 41 .t_bool [none]])], []⟩), ([0, 0, 1, 1, 1, 1, 1, 1, 1, 1], ⟨[0, 1, 6, 10, 11], [], [(.nrm, [.reg 61 .t_bool [none]])], []⟩), ([0, 0, 1, 0, 1, 1, 1, 1, 1, 1, 1, 1], ⟨[], [], [(.nrm, [.reg 4 .t_bool [none]])], []⟩), ([0, 1, 0, 1, 1, 1, 1, 1, 1, 1, 1, 1, 1], ⟨[0, 1, 6, 10, 11], [.reg 12 .l_i64 [some 3], .reg 13 .l_i64 [some 3], .reg 14 .t_i64 [none]], [(.ex 0, [.reg 12 .l_i64 [some 3], .reg 13 .l_i64 [some 3]]), (.ret, [.reg 4 .t_bool [none]])], []⟩), ([0, 0, 0, 0, 1, 0, 0, 1, 0, 1, 1, 1, 1, 1, 1, 1, 1, 1, 1], ⟨[0, 1, 6, 10, 11, 12, 13, 14], [], [(.nrm, [.reg 116 .t_bool [none]])], []⟩), ([0, 1, 1, 1, 1, 1, 1, 1, 1, 1, 1, 1], ⟨[], [], [(.nrm, [.reg 4 .t_bool [none]])], []⟩)])]) mixed (.cons (d_l39_alive N) (.cons (d_l39_right N) (.cons (d_pond_Spare N) (.cons (d_pond_Take N) (.cons (d_r39_Same N) (.cons (d_r34_Fair N) .nil)))))) .nil Try.func7 (by kernel_rfl) (by kernel_rfl)

def l39_PondInflow (N : Nat) (x0 : List Pond) (x1 : Arr2_42) : Option Bool :=
 
  (l39_alive N).bind fun (r2 : Bool) =>
    bif !r2 then some false
    else
      (l39_right N x0).bind fun (r3 : Bool) =>
        bif !r3 then some true
        else
          (pond_Fill N x0 (min x1.a0 x1.a1)).bind fun (r4 : List Pond × Int × Int) =>
            (pond_Fill N x0 (max x1.a0 x1.a1)).bind fun (r5 : List Pond × Int × Int) =>
              (pond_Fill N x0 (0 : Int)).bind fun (r6 : List Pond × Int × Int) =>
                (bif r6.snd.snd != (0 : Int) then some true
                    else
                      bif r6.snd.fst != (0 : Int) then some true
                      else (r39_Same N r6.fst x0).bind fun (r7 : Bool) => some !r7).bind
                  fun (r8 : Bool) =>
                  bif r8 then some false
                  else
                    (bif r4.snd.snd != (0 : Int) then some true else some (r5.snd.snd != (0 : Int))).bind
                      fun (r9 : Bool) =>
                      bif r9 then
                        (bif r4.snd.snd != (0 : Int) then
                              bif (↑(List.length r4.fst) : Int) == (0 : Int) then
                                bif r4.snd.fst == (0 : Int) then some true
                                else
                                  bif r5.snd.snd != (0 : Int) then
                                    bif (↑(List.length r5.fst) : Int) == (0 : Int) then some (r5.snd.fst == (0 : Int))
                                    else some false
                                  else some false
                              else
                                bif r5.snd.snd != (0 : Int) then
                                  bif (↑(List.length r5.fst) : Int) == (0 : Int) then some (r5.snd.fst == (0 : Int))
                                  else some false
                                else some false
                            else
                              bif r5.snd.snd != (0 : Int) then
                                bif (↑(List.length r5.fst) : Int) == (0 : Int) then some (r5.snd.fst == (0 : Int))
                                else some false
                              else some false).bind
                          fun (r10 : Bool) => some r10
                      else
                        (whileF N
                              (fun (p11 : Int) =>
                                bif decide (p11 < (↑x0.length : Int)) then
                                  (bif decide (p11 ≥ (↑(List.length r4.fst) : Int)) then some true
                                      else
                                        bif decide (p11 ≥ (↑(List.length r5.fst) : Int)) then some true
                                        else
                                          bif
                                              decide ((0 : Int) ≤ p11) &&
                                                decide (p11 < (↑(List.length r4.fst) : Int)) then
                                            bif decide ((0 : Int) ≤ p11) && decide (p11 < (↑x0.length : Int)) then
                                              bif
                                                  decide
                                                    ((List.getD r4.fst p11.toNat z_Pond).Volume <
                                                      (x0.getD p11.toNat z_Pond).Volume) then
                                                some true
                                              else
                                                bif
                                                    decide ((0 : Int) ≤ p11) &&
                                                      decide (p11 < (↑(List.length r5.fst) : Int)) then
                                                  bif
                                                      decide ((0 : Int) ≤ p11) &&
                                                        decide (p11 < (↑(List.length r4.fst) : Int)) then
                                                    bif
                                                        decide
                                                          ((List.getD r5.fst p11.toNat z_Pond).Volume <
                                                            (List.getD r4.fst p11.toNat z_Pond).Volume) then
                                                      some true
                                                    else
                                                      bif
                                                          decide ((0 : Int) ≤ p11) &&
                                                            decide (p11 < (↑x0.length : Int)) then
                                                        bif
                                                            decide ((0 : Int) ≤ p11) &&
                                                              decide (p11 < (↑x0.length : Int)) then
                                                          bif
                                                              (x0.getD p11.toNat z_Pond).Volume ==
                                                                (x0.getD p11.toNat z_Pond).Most then
                                                            bif
                                                                decide ((0 : Int) ≤ p11) &&
                                                                  decide (p11 < (↑(List.length r5.fst) : Int)) then
                                                              bif
                                                                  decide ((0 : Int) ≤ p11) &&
                                                                    decide (p11 < (↑x0.length : Int)) then
                                                                some
                                                                  ((List.getD r5.fst p11.toNat z_Pond).Volume !=
                                                                    (x0.getD p11.toNat z_Pond).Most)
                                                              else none
                                                            else none
                                                          else some false
                                                        else none
                                                      else none
                                                  else none
                                                else none
                                            else none
                                          else none).bind
                                    fun (r12 : Bool) =>
                                    bif r12 then some (Sum.inr (Sum.inr false))
                                    else some (Sum.inl (IntKind.i64.wrap (p11 + (1 : Int))))
                                else some (Sum.inr (Sum.inl ())))
                              (0 : Int)).bind
                          fun (r13 : Unit ⊕ Bool) =>
                          Sum.elim
                            (fun (p14 : Unit) =>
                              (bif decide (r4.snd.fst ≥ (0 : Int)) then some (decide (r5.snd.fst ≥ r4.snd.fst))
                                  else some false).bind
                                fun (r15 : Bool) => some r15)
                            (fun (p16 : Bool) => some p16) r13
theorem d_l39_PondInflow (N : Nat) : DenF Try.prog 8 ⟨[.l_Pond, .t_Arr2_42], [.t_bool], [[none]], l39_PondInflow N⟩ :=
  den_of (N := N) (gam := [(9, ⟨[], [.t_bool], [[none]], l39_alive N⟩), (12, ⟨[.l_Pond], [.t_bool], [[none]], l39_right N⟩), (20, ⟨[.l_Pond, .t_i64], [.l_Pond, .t_i64, .t_i64], [[some 38], [none], [none]], pond_Fill N⟩), (19, ⟨[.l_Pond, .l_Pond], [.t_bool], [[none]], r39_Same N⟩)]) (txt := []) (hints := [(8, [([0, 0, 1, 1, 1, 1, 1, 1], ⟨[0, 5, 6, 7, 8, 9, 10], [], [(.nrm, [.reg 59 .t_bool [none]])], []⟩), ([0, 0, 1, 1, 1, 1, 1, 1, 1], ⟨[0, 5, 6, 7, 8, 9, 10], [], [(.nrm, [.reg 65 .t_bool [none]])], []⟩), ([0, 0, 1, 0, 1, 1, 1, 1, 1, 1, 1], ⟨[], [], [(.nrm, [.reg 4 .t_bool [none]])], []⟩), ([0, 1, 0, 1, 1, 1, 1, 1, 1, 1, 1], ⟨[0, 5, 6, 8, 9], [.reg 14 .t_i64 [none]], [(.ex 0, []), (.ret, [.reg 4 .t_bool [none]])], []⟩), ([0, 0, 0, 1, 0, 0, 1, 0, 1, 1, 1, 1, 1, 1, 1, 1], ⟨[0, 5, 6, 8, 9, 14], [], [(.nrm, [.reg 157 .t_bool [none]])], []⟩), ([0, 1, 1, 1, 1, 1, 1, 1, 1, 1], ⟨[], [], [(.nrm, [.reg 4 .t_bool [none]])], []⟩)])]) mixed (.cons (d_l39_alive N) (.cons (d_l39_right N) (.cons (d_pond_Fill N) (.cons (d_r39_Same N) .nil)))) .nil Try.func8 (by kernel_rfl) (by kernel_rfl)
end Go.Proofs.Ytoniopgegcngpaa
