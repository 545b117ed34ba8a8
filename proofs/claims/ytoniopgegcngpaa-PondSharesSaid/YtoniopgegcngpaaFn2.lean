/- Written by a program (gen.py, asm.py): what each function computes, as a plain function, and that its text computes it. No condition. -/
import Derived.Test.YtoniopgegcngpaaFn1
import Derived.Test.YtoniopgegcngpaaCmo
namespace Go.Proofs.Ytoniopgegcngpaa
open Go.Cm Go.Proofs
set_option linter.unusedVariables false
set_option maxRecDepth 100000

def pond_Fill (N : Nat) (x0 : List Pond) (x1 : Int) : Option ((List Pond) × Int × Int) :=
 
  (bif decide (x1 < (0 : Int)) then some true else some (decide (x1 > (86400 : Int)))).bind fun (r2 : Bool) =>
    bif r2 then some ([], (0 : Int), (2 : Int))
    else
      (sl_Clone_Pond N x0).bind fun (r3 : List Pond) =>
        (whileF N
              (fun (p4 : Int × Int × List Pond) =>
                bif decide (p4.snd.fst < (↑x0.length : Int)) then
                  bif decide ((0 : Int) ≤ p4.snd.fst) && decide (p4.snd.fst < (↑x0.length : Int)) then
                    bif decide ((0 : Int) ≤ p4.snd.fst) && decide (p4.snd.fst < (↑(List.length p4.snd.snd) : Int)) then
                      bif
                          decide ((0 : Int) ≤ p4.snd.fst) &&
                            decide (p4.snd.fst < (↑(List.length p4.snd.snd) : Int)) then
                        (some
                              (List.set p4.snd.snd (Int.toNat p4.snd.fst)
                                (Pond.mk (List.getD p4.snd.snd (Int.toNat p4.snd.fst) z_Pond).ID
                                  (IntKind.i64.wrap
                                    ((List.getD p4.snd.snd (Int.toNat p4.snd.fst) z_Pond).Volume +
                                      min
                                        (IntKind.i64.wrap
                                          ((IntKind.i64.wrap ((x0.getD (Int.toNat p4.snd.fst) z_Pond).Inflow * x1)).tdiv
                                            (3600 : Int)))
                                        (IntKind.i64.wrap
                                          ((x0.getD (Int.toNat p4.snd.fst) z_Pond).Most -
                                            (x0.getD (Int.toNat p4.snd.fst) z_Pond).Volume))))
                                  (List.getD p4.snd.snd (Int.toNat p4.snd.fst) z_Pond).Least
                                  (List.getD p4.snd.snd (Int.toNat p4.snd.fst) z_Pond).Most
                                  (List.getD p4.snd.snd (Int.toNat p4.snd.fst) z_Pond).Inflow))).bind
                          fun (r5 : List Pond) =>
                          some
                            (Sum.inl
                              (IntKind.i64.wrap
                                  (p4.fst +
                                    min
                                      (IntKind.i64.wrap
                                        ((IntKind.i64.wrap ((x0.getD (Int.toNat p4.snd.fst) z_Pond).Inflow * x1)).tdiv
                                          (3600 : Int)))
                                      (IntKind.i64.wrap
                                        ((x0.getD (Int.toNat p4.snd.fst) z_Pond).Most -
                                          (x0.getD (Int.toNat p4.snd.fst) z_Pond).Volume))),
                                IntKind.i64.wrap (p4.snd.fst + (1 : Int)), r5))
                      else none
                    else none
                  else none
                else some (Sum.inr (p4.fst, p4.snd.snd)))
              ((0 : Int), (0 : Int), r3)).bind
          fun (r6 : Int × List Pond) => some (r6.snd, r6.fst, (0 : Int))
theorem d_pond_Fill (N : Nat) : DenF Try.prog 20 ⟨[.l_Pond, .t_i64], [.l_Pond, .t_i64, .t_i64], [[some 38], [none], [none]], pond_Fill N⟩ :=
  den_of (N := N) (gam := [(24, ⟨[.l_Pond], [.l_Pond], [[some 38]], sl_Clone_Pond N⟩)]) (txt := []) (hints := [(20, [([0, 0, 1], ⟨[0, 1], [], [(.nrm, [.reg 17 .t_bool [none]])], []⟩), ([0, 1, 0, 1, 1, 1, 1], ⟨[1, 7, 20, 21], [.reg 8 .t_i64 [none], .reg 22 .t_i64 [none], .rowr 7 .l_Pond], [(.ex 0, [.reg 8 .t_i64 [none], .rowr 7 .l_Pond])], []⟩)])]) mixed (.cons (d_sl_Clone_Pond N) .nil) .nil Try.func20 (by kernel_rfl) (by kernel_rfl)

def pond_Right (N : Nat) (x0 : List Pond) : Option Int :=
 
  bif decide ((↑x0.length : Int) > (8 : Int)) then some (4 : Int)
  else
    (whileF N
          (fun (p1 : Int × (Int → Option Bool)) =>
            bif decide (p1.fst < (↑x0.length : Int)) then
              bif decide ((0 : Int) ≤ p1.fst) && decide (p1.fst < (↑x0.length : Int)) then
                (bif decide ((x0.getD (Int.toNat p1.fst) z_Pond).ID < (1 : Int)) then some true
                    else
                      bif decide ((x0.getD (Int.toNat p1.fst) z_Pond).ID > (9999 : Int)) then some true
                      else
                        bif decide ((x0.getD (Int.toNat p1.fst) z_Pond).Inflow < (0 : Int)) then some true
                        else some (decide ((x0.getD (Int.toNat p1.fst) z_Pond).Inflow > (10000000 : Int)))).bind
                  fun (r2 : Bool) =>
                  bif r2 then some (Sum.inr (Sum.inr ((2 : Int), p1.snd)))
                  else
                    (bif decide ((x0.getD (Int.toNat p1.fst) z_Pond).Least < (0 : Int)) then some true
                        else
                          bif
                              decide
                                ((x0.getD (Int.toNat p1.fst) z_Pond).Volume <
                                  (x0.getD (Int.toNat p1.fst) z_Pond).Least) then
                            some true
                          else
                            bif
                                decide
                                  ((x0.getD (Int.toNat p1.fst) z_Pond).Most <
                                    (x0.getD (Int.toNat p1.fst) z_Pond).Volume) then
                              some true
                            else some (decide ((x0.getD (Int.toNat p1.fst) z_Pond).Most > (1000000000 : Int)))).bind
                      fun (r3 : Bool) =>
                      bif r3 then some (Sum.inr (Sum.inr ((2 : Int), p1.snd)))
                      else
                        bif (p1.snd (x0.getD (Int.toNat p1.fst) z_Pond).ID).getD false then
                          some (Sum.inr (Sum.inr ((7 : Int), p1.snd)))
                        else
                          some
                            (Sum.inl
                              (IntKind.i64.wrap (p1.fst + (1 : Int)), fun (u : Int) =>
                                bif u == (x0.getD (Int.toNat p1.fst) z_Pond).ID then some true else p1.snd u))
              else none
            else some (Sum.inr (Sum.inl p1.snd)))
          ((0 : Int), fun (x : Int) => none)).bind
      fun (r4 : (Int → Option Bool) ⊕ Int × (Int → Option Bool)) =>
      Sum.elim (fun (p5 : Int → Option Bool) => some (0 : Int)) (fun (p6 : Int × (Int → Option Bool)) => some p6.fst) r4
theorem d_pond_Right (N : Nat) : DenF Try.prog 10 ⟨[.l_Pond], [.t_i64], [[none]], pond_Right N⟩ :=
  den_of (N := N) (gam := []) (txt := []) (hints := [(10, [([0, 1, 0, 1, 1, 1], ⟨[3, 10, 11], [.reg 12 .t_i64 [none], .mapr 3 .t_bool], [(.ex 0, [.mapr 3 .t_bool]), (.ret, [.reg 2 .t_i64 [none], .mapr 3 .t_bool])], []⟩), ([0, 0, 1, 0, 0, 1, 1, 0, 0, 1, 0, 1, 1, 1], ⟨[3, 5, 10, 11, 12], [], [(.nrm, [.reg 33 .t_bool [none]])], []⟩), ([0, 0, 1, 1, 0, 0, 1, 1, 0, 0, 1, 0, 1, 1, 1], ⟨[3, 5, 10, 11, 12], [], [(.nrm, [.reg 55 .t_bool [none]])], []⟩)])]) mixed .nil .nil Try.func10 (by kernel_rfl) (by kernel_rfl)

def pond_Total (N : Nat) (x0 : List Pond) : Option Int :=
 
  (whileF N
        (fun (p1 : Int × Int) =>
          bif decide (p1.snd < (↑x0.length : Int)) then
            bif decide ((0 : Int) ≤ p1.snd) && decide (p1.snd < (↑x0.length : Int)) then
              some
                (Sum.inl
                  (IntKind.i64.wrap (p1.fst + (x0.getD (Int.toNat p1.snd) z_Pond).Volume),
                    IntKind.i64.wrap (p1.snd + (1 : Int))))
            else none
          else some (Sum.inr p1.fst))
        ((0 : Int), (0 : Int))).bind
    fun (r2 : Int) => some r2
theorem d_pond_Total (N : Nat) : DenF Try.prog 15 ⟨[.l_Pond], [.t_i64], [[none]], pond_Total N⟩ :=
  den_of (N := N) (gam := []) (txt := []) (hints := [(15, [([0, 1, 0, 1, 1], ⟨[6, 7], [.reg 3 .t_i64 [none], .reg 8 .t_i64 [none]], [(.ex 0, [.reg 3 .t_i64 [none]])], []⟩)])]) mixed .nil .nil Try.func15 (by kernel_rfl) (by kernel_rfl)

def l39_alive (N : Nat) : Option Bool :=
 
  (some
        [Pond.mk (1 : Int) (1000 : Int) (200 : Int) (5000 : Int) (3600 : Int),
          Pond.mk (2 : Int) (500 : Int) (100 : Int) (600 : Int) (7200 : Int)]).bind
    fun (r0 : List Pond) =>
    (pond_Take N r0 (300 : Int)).bind fun (r1 : List Pond × Int) =>
      (pond_Take N r0 (1 : Int)).bind fun (r2 : List Pond × Int) =>
        (pond_Take N r0 (1201 : Int)).bind fun (r3 : List Pond × Int) =>
          (pond_Take N r0 (-1 : Int)).bind fun (r4 : List Pond × Int) =>
            (pond_Fill N r0 (30 : Int)).bind fun (r5 : List Pond × Int × Int) =>
              (pond_Fill N r0 (100 : Int)).bind fun (r6 : List Pond × Int × Int) =>
                (bif r1.snd != (0 : Int) then some true
                    else
                      bif r2.snd != (0 : Int) then some true
                      else
                        bif r3.snd != (9 : Int) then some true
                        else
                          bif r4.snd != (2 : Int) then some true
                          else
                            bif r5.snd.snd != (0 : Int) then some true
                            else
                              bif r6.snd.snd != (0 : Int) then some true
                              else
                                bif r5.snd.fst != (90 : Int) then some true
                                else
                                  bif r6.snd.fst != (200 : Int) then some true
                                  else
                                    bif (↑(List.length r1.fst) : Int) != (2 : Int) then some true
                                    else
                                      bif (↑(List.length r2.fst) : Int) != (2 : Int) then some true
                                      else
                                        bif (↑(List.length r5.fst) : Int) != (2 : Int) then some true
                                        else some ((↑(List.length r6.fst) : Int) != (2 : Int))).bind
                  fun (r7 : Bool) =>
                  bif r7 then some false
                  else
                    ((pond_Right N r0).bind fun (r8 : Int) =>
                          bif r8 == (0 : Int) then
                            bif true && decide ((0 : Int) < (↑r0.length : Int)) then
                              (some [r0.getD 0 z_Pond]).bind fun (r9 : List Pond) =>
                                bif
                                    decide ((r0.length + r9.length) * 40 ≤ 140737488355328) &&
                                      decide (0 < r9.length) then
                                  (some (r0 ++ r9)).bind fun (r10 : List Pond) =>
                                    (pond_Right N r10).bind fun (r11 : Int) =>
                                      bif r11 == (7 : Int) then
                                        (pond_Spare N r0).bind fun (r12 : Int) =>
                                          bif r12 == (1200 : Int) then
                                            (pond_Total N r0).bind fun (r13 : Int) =>
                                              bif r13 == (1500 : Int) then
                                                bif true && decide ((0 : Int) < (↑(List.length r1.fst) : Int)) then
                                                  bif (List.getD r1.fst 0 z_Pond).Volume == (800 : Int) then
                                                    bif true && decide ((1 : Int) < (↑(List.length r1.fst) : Int)) then
                                                      bif (List.getD r1.fst 1 z_Pond).Volume == (400 : Int) then
                                                        bif
                                                            true &&
                                                              decide ((0 : Int) < (↑(List.length r2.fst) : Int)) then
                                                          bif
                                                              (List.getD r2.fst 0 z_Pond).Volume ==
                                                                (999 : Int) then
                                                            bif
                                                                true &&
                                                                  decide
                                                                    ((1 : Int) < (↑(List.length r2.fst) : Int)) then
                                                              bif
                                                                  (List.getD r2.fst 1 z_Pond).Volume ==
                                                                    (500 : Int) then
                                                                bif
                                                                    true &&
                                                                      decide
                                                                        ((0 : Int) < (↑(List.length r5.fst) : Int)) then
                                                                  bif
                                                                      (List.getD r5.fst 0 z_Pond).Volume ==
                                                                        (1030 : Int) then
                                                                    bif
                                                                        true &&
                                                                          decide
                                                                            ((1 : Int) <
                                                                              (↑(List.length r6.fst) : Int)) then
                                                                      some
                                                                        ((List.getD r6.fst 1 z_Pond).Volume ==
                                                                          (600 : Int))
                                                                    else none
                                                                  else some false
                                                                else none
                                                              else some false
                                                            else none
                                                          else some false
                                                        else none
                                                      else some false
                                                    else none
                                                  else some false
                                                else none
                                              else some false
                                          else some false
                                      else some false
                                else none
                            else none
                          else some false).bind
                      fun (r14 : Bool) => some r14
theorem d_l39_alive (N : Nat) : DenF Try.prog 9 ⟨[], [.t_bool], [[none]], l39_alive N⟩ :=
  den_of (N := N) (gam := [(17, ⟨[.l_Pond, .t_i64], [.l_Pond, .t_i64], [[some 38], [none]], pond_Take N⟩), (20, ⟨[.l_Pond, .t_i64], [.l_Pond, .t_i64, .t_i64], [[some 38], [none], [none]], pond_Fill N⟩), (10, ⟨[.l_Pond], [.t_i64], [[none]], pond_Right N⟩), (13, ⟨[.l_Pond], [.t_i64], [[none]], pond_Spare N⟩), (15, ⟨[.l_Pond], [.t_i64], [[none]], pond_Total N⟩)]) (txt := [(23, Try.f23)]) (hints := [(9, [([0, 0, 1, 1, 1, 1, 1, 1, 1, 1], ⟨[1, 2, 4, 10, 13], [], [(.nrm, [.reg 98 .t_bool [none]])], []⟩), ([0, 1, 1, 1, 1, 1, 1, 1, 1, 1], ⟨[], [], [(.nrm, [.reg 0 .t_bool [none]])], []⟩)])]) mixed (.cons (d_pond_Take N) (.cons (d_pond_Fill N) (.cons (d_pond_Right N) (.cons (d_pond_Spare N) (.cons (d_pond_Total N) .nil))))) (.cons Try.func23 .nil) Try.func9 (by kernel_rfl) (by kernel_rfl)

def r39_Right (N : Nat) (x0 : List Pond) : Option Int :=
 
  bif decide ((↑x0.length : Int) > (8 : Int)) then some (4 : Int)
  else
    (whileF N
          (fun (p1 : Int) =>
            bif decide (p1 < (↑x0.length : Int)) then
              bif decide ((0 : Int) ≤ p1) && decide (p1 < (↑x0.length : Int)) then
                (bif decide ((x0.getD p1.toNat z_Pond).ID < (1 : Int)) then some true
                    else
                      bif decide ((x0.getD p1.toNat z_Pond).ID > (9999 : Int)) then some true
                      else
                        bif decide ((x0.getD p1.toNat z_Pond).Least < (0 : Int)) then some true
                        else
                          bif decide ((x0.getD p1.toNat z_Pond).Least > (x0.getD p1.toNat z_Pond).Volume) then some true
                          else
                            bif decide ((x0.getD p1.toNat z_Pond).Volume > (x0.getD p1.toNat z_Pond).Most) then
                              some true
                            else
                              bif decide ((x0.getD p1.toNat z_Pond).Most > (1000000000 : Int)) then some true
                              else
                                bif decide ((x0.getD p1.toNat z_Pond).Inflow < (0 : Int)) then some true
                                else some (decide ((x0.getD p1.toNat z_Pond).Inflow > (10000000 : Int)))).bind
                  fun (r2 : Bool) =>
                  bif r2 then some (Sum.inr (Sum.inr (2 : Int)))
                  else
                    (whileF N
                          (fun (p3 : Int) =>
                            bif decide (p3 < p1) then
                              bif decide ((0 : Int) ≤ p3) && decide (p3 < (↑x0.length : Int)) then
                                bif (x0.getD p3.toNat z_Pond).ID == (x0.getD p1.toNat z_Pond).ID then
                                  some (Sum.inr (Sum.inr (7 : Int)))
                                else some (Sum.inl (IntKind.i64.wrap (p3 + (1 : Int))))
                              else none
                            else some (Sum.inr (Sum.inl ())))
                          (0 : Int)).bind
                      fun (r4 : Unit ⊕ Int) =>
                      Sum.elim (fun (p5 : Unit) => some (Sum.inl (IntKind.i64.wrap (p1 + (1 : Int)))))
                        (fun (p6 : Int) => some (Sum.inr (Sum.inr p6))) r4
              else none
            else some (Sum.inr (Sum.inl ())))
          (0 : Int)).bind
      fun (r7 : Unit ⊕ Int) => Sum.elim (fun (p8 : Unit) => some (0 : Int)) (fun (p9 : Int) => some p9) r7
theorem d_r39_Right (N : Nat) : DenF Try.prog 11 ⟨[.l_Pond], [.t_i64], [[none]], r39_Right N⟩ :=
  den_of (N := N) (gam := []) (txt := []) (hints := [(11, [([0, 1, 0, 1, 1], ⟨[0], [.reg 3 .t_i64 [none]], [(.ex 0, []), (.ret, [.reg 2 .t_i64 [none]])], []⟩), ([0, 0, 1, 0, 0, 1, 0, 0, 1, 0, 1, 1], ⟨[0, 3, 4], [], [(.nrm, [.reg 60 .t_bool [none]])], []⟩), ([0, 1, 1, 1, 0, 0, 1, 0, 0, 1, 0, 1, 1], ⟨[0, 3, 4], [.reg 5 .t_i64 [none]], [(.ex 2, []), (.ret, [.reg 2 .t_i64 [none]])], []⟩)])]) mixed .nil .nil Try.func11 (by kernel_rfl) (by kernel_rfl)

def l39_right (N : Nat) (x0 : List Pond) : Option Bool :=
  (r39_Right N x0).bind fun (r1 : Int) => some (r1 == (0 : Int))
theorem d_l39_right (N : Nat) : DenF Try.prog 12 ⟨[.l_Pond], [.t_bool], [[none]], l39_right N⟩ :=
  den_of (N := N) (gam := [(11, ⟨[.l_Pond], [.t_i64], [[none]], r39_Right N⟩)]) (txt := []) (hints := []) mixed (.cons (d_r39_Right N) .nil) .nil Try.func12 (by kernel_rfl) (by kernel_rfl)

def r39_Spare (N : Nat) (x0 : List Pond) : Option Int :=
 
  (whileF N
        (fun (p1 : Int × Int) =>
          bif decide (p1.snd < (↑x0.length : Int)) then
            bif decide ((0 : Int) ≤ p1.snd) && decide (p1.snd < (↑x0.length : Int)) then
              bif decide ((0 : Int) ≤ p1.snd) && decide (p1.snd < (↑x0.length : Int)) then
                some
                  (Sum.inl
                    (IntKind.i64.wrap
                        (IntKind.i64.wrap (p1.fst + (x0.getD (Int.toNat p1.snd) z_Pond).Volume) -
                          (x0.getD (Int.toNat p1.snd) z_Pond).Least),
                      IntKind.i64.wrap (p1.snd + (1 : Int))))
              else none
            else none
          else some (Sum.inr p1.fst))
        ((0 : Int), (0 : Int))).bind
    fun (r2 : Int) => some r2
theorem d_r39_Spare (N : Nat) : DenF Try.prog 14 ⟨[.l_Pond], [.t_i64], [[none]], r39_Spare N⟩ :=
  den_of (N := N) (gam := []) (txt := []) (hints := [(14, [([0, 1, 0, 1, 1], ⟨[0], [.reg 3 .t_i64 [none], .reg 4 .t_i64 [none]], [(.ex 0, [.reg 3 .t_i64 [none]])], []⟩)])]) mixed .nil .nil Try.func14 (by kernel_rfl) (by kernel_rfl)

def r39_Total (N : Nat) (x0 : List Pond) : Option Int :=
 
  (whileF N
        (fun (p1 : Int × Int) =>
          bif decide (p1.snd < (↑x0.length : Int)) then
            bif decide ((0 : Int) ≤ p1.snd) && decide (p1.snd < (↑x0.length : Int)) then
              some
                (Sum.inl
                  (IntKind.i64.wrap (p1.fst + (x0.getD (Int.toNat p1.snd) z_Pond).Volume),
                    IntKind.i64.wrap (p1.snd + (1 : Int))))
            else none
          else some (Sum.inr p1.fst))
        ((0 : Int), (0 : Int))).bind
    fun (r2 : Int) => some r2
theorem d_r39_Total (N : Nat) : DenF Try.prog 16 ⟨[.l_Pond], [.t_i64], [[none]], r39_Total N⟩ :=
  den_of (N := N) (gam := []) (txt := []) (hints := [(16, [([0, 1, 0, 1, 1], ⟨[0], [.reg 3 .t_i64 [none], .reg 4 .t_i64 [none]], [(.ex 0, [.reg 3 .t_i64 [none]])], []⟩)])]) mixed .nil .nil Try.func16 (by kernel_rfl) (by kernel_rfl)

def l39_PondRights (N : Nat) (x0 : List Pond) : Option Bool :=
 
  (l39_alive N).bind fun (r1 : Bool) =>
    bif !r1 then some false
    else
      bif decide ((↑x0.length : Int) > (40 : Int)) then some true
      else
        ((pond_Right N x0).bind fun (r2 : Int) =>
              (r39_Right N x0).bind fun (r3 : Int) =>
                bif r2 == r3 then
                  (l39_right N x0).bind fun (r4 : Bool) =>
                    bif !r4 then some true
                    else
                      (pond_Spare N x0).bind fun (r5 : Int) =>
                        (r39_Spare N x0).bind fun (r6 : Int) =>
                          bif r5 == r6 then
                            (pond_Total N x0).bind fun (r7 : Int) =>
                              (r39_Total N x0).bind fun (r8 : Int) => some (r7 == r8)
                          else some false
                else some false).bind
          fun (r9 : Bool) => some r9
theorem d_l39_PondRights (N : Nat) : DenF Try.prog 3 ⟨[.l_Pond], [.t_bool], [[none]], l39_PondRights N⟩ :=
  den_of (N := N) (gam := [(9, ⟨[], [.t_bool], [[none]], l39_alive N⟩), (10, ⟨[.l_Pond], [.t_i64], [[none]], pond_Right N⟩), (11, ⟨[.l_Pond], [.t_i64], [[none]], r39_Right N⟩), (12, ⟨[.l_Pond], [.t_bool], [[none]], l39_right N⟩), (13, ⟨[.l_Pond], [.t_i64], [[none]], pond_Spare N⟩), (14, ⟨[.l_Pond], [.t_i64], [[none]], r39_Spare N⟩), (15, ⟨[.l_Pond], [.t_i64], [[none]], pond_Total N⟩), (16, ⟨[.l_Pond], [.t_i64], [[none]], r39_Total N⟩)]) (txt := []) (hints := [(3, [([0, 1, 1, 1], ⟨[], [], [(.nrm, [.reg 2 .t_bool [none]])], []⟩)])]) mixed (.cons (d_l39_alive N) (.cons (d_pond_Right N) (.cons (d_r39_Right N) (.cons (d_l39_right N) (.cons (d_pond_Spare N) (.cons (d_r39_Spare N) (.cons (d_pond_Total N) (.cons (d_r39_Total N) .nil)))))))) .nil Try.func3 (by kernel_rfl) (by kernel_rfl)

def r34_sum (N : Nat) (x0 : List Int) : Option Int :=
 
  (whileF N
        (fun (p1 : Int × Int) =>
          bif decide (p1.snd < (↑x0.length : Int)) then
            bif decide ((0 : Int) ≤ p1.snd) && decide (p1.snd < (↑x0.length : Int)) then
              some
                (Sum.inl
                  (IntKind.i64.wrap (p1.fst + x0.getD (Int.toNat p1.snd) (0 : Int)),
                    IntKind.i64.wrap (p1.snd + (1 : Int))))
            else none
          else some (Sum.inr p1.fst))
        ((0 : Int), (0 : Int))).bind
    fun (r2 : Int) => some r2
theorem d_r34_sum (N : Nat) : DenF Try.prog 28 ⟨[.l_i64], [.t_i64], [[none]], r34_sum N⟩ :=
  den_of (N := N) (gam := []) (txt := []) (hints := [(28, [([0, 1, 0, 1, 1], ⟨[0], [.reg 3 .t_i64 [none], .reg 4 .t_i64 [none]], [(.ex 0, [.reg 3 .t_i64 [none]])], []⟩)])]) mixed .nil .nil Try.func28 (by kernel_rfl) (by kernel_rfl)

def r34_Quotient (N : Nat) (x0 x1 x2 : Int) : Option (Int × Int) :=
 
  (whileF N
        (fun (p3 : Int × Int × Int) =>
          bif decide (p3.snd.snd ≥ (0 : Int)) then
            bif decide ((0 : Int) ≤ p3.snd.snd) then
              (bif andI IntKind.i64 (shrI IntKind.i64 x1 p3.snd.snd) (1 : Int) == (1 : Int) then
                    bif x2 != (0 : Int) then
                      bif x2 != (0 : Int) then
                        some
                          (IntKind.i64.wrap (IntKind.i64.wrap ((2 : Int) * p3.fst) + IntKind.i64.wrap (x0.tdiv x2)),
                            IntKind.i64.wrap (IntKind.i64.wrap ((2 : Int) * p3.snd.fst) + x0.tmod x2))
                      else none
                    else none
                  else some (IntKind.i64.wrap ((2 : Int) * p3.fst), IntKind.i64.wrap ((2 : Int) * p3.snd.fst))).bind
                fun (r4 : Int × Int) =>
                bif x2 != (0 : Int) then
                  bif x2 != (0 : Int) then
                    some
                      (Sum.inl
                        (IntKind.i64.wrap (r4.fst + IntKind.i64.wrap (Int.tdiv r4.snd x2)), Int.tmod r4.snd x2,
                          IntKind.i64.wrap (p3.snd.snd - (1 : Int))))
                  else none
                else none
            else none
          else some (Sum.inr (p3.fst, p3.snd.fst)))
        ((0 : Int), (0 : Int), (30 : Int))).bind
    fun (r5 : Int × Int) => some r5
theorem d_r34_Quotient (N : Nat) : DenF Try.prog 27 ⟨[.t_i64, .t_i64, .t_i64], [.t_i64, .t_i64], [[none], [none]], r34_Quotient N⟩ :=
  den_of (N := N) (gam := []) (txt := []) (hints := [(27, [([0, 1, 0, 1, 1], ⟨[0, 1, 2], [.reg 8 .t_i64 [none], .reg 9 .t_i64 [none], .reg 10 .t_i64 [none]], [(.ex 0, [.reg 8 .t_i64 [none], .reg 9 .t_i64 [none]])], []⟩), ([1, 0, 1, 1, 0, 0, 1, 0, 0, 1, 0, 1, 1], ⟨[0, 1, 2, 10], [], [(.nrm, [.reg 8 .t_i64 [none], .reg 9 .t_i64 [none]])], []⟩)])]) mixed .nil .nil Try.func27 (by kernel_rfl) (by kernel_rfl)

def r34_Split (N : Nat) (x0 : Int) (x1 : List Int) : Option ((List Int) × Int) :=
 
  bif decide ((↑x1.length : Int) > (64 : Int)) then some ([], (4 : Int))
  else
    (bif decide (x0 < (0 : Int)) then some true else some (decide (x0 > (1099511627776 : Int)))).bind fun (r2 : Bool) =>
      bif r2 then some ([], (2 : Int))
      else
        (whileF N
              (fun (p3 : Int) =>
                bif decide (p3 < (↑x1.length : Int)) then
                  (bif decide ((0 : Int) ≤ p3) && decide (p3 < (↑x1.length : Int)) then
                        bif decide (x1.getD p3.toNat (0 : Int) < (0 : Int)) then some true
                        else
                          bif decide ((0 : Int) ≤ p3) && decide (p3 < (↑x1.length : Int)) then
                            some (decide (x1.getD p3.toNat (0 : Int) > (1000000000 : Int)))
                          else none
                      else none).bind
                    fun (r4 : Bool) =>
                    bif r4 then some (Sum.inr (Sum.inr ([], (2 : Int))))
                    else some (Sum.inl (IntKind.i64.wrap (p3 + (1 : Int))))
                else some (Sum.inr (Sum.inl ())))
              (0 : Int)).bind
          fun (r5 : Unit ⊕ List Int × Int) =>
          Sum.elim
            (fun (p6 : Unit) =>
              (r34_sum N x1).bind fun (r7 : Int) =>
                bif r7 == (0 : Int) then some ([], (1 : Int))
                else
                  (whileF N
                        (fun (p8 : List Int × List Int × Int) =>
                          bif decide (p8.snd.snd < (↑x1.length : Int)) then
                            bif decide ((0 : Int) ≤ p8.snd.snd) && decide (p8.snd.snd < (↑x1.length : Int)) then
                              (r34_Quotient N x0 (x1.getD (Int.toNat p8.snd.snd) (0 : Int)) r7).bind
                                fun (r9 : Int × Int) =>
                                (some [r9.fst]).bind fun (r10 : List Int) =>
                                  bif
                                      decide
                                        ((List.length p8.fst + r10.length) * 8 ≤ 140737488355328) then
                                    (some (p8.fst ++ r10)).bind fun (r11 : List Int) =>
                                      (some [r9.snd]).bind fun (r12 : List Int) =>
                                        bif
                                            decide
                                              ((List.length p8.snd.fst + r12.length) * 8 ≤
                                                140737488355328) then
                                          (some (p8.snd.fst ++ r12)).bind fun (r13 : List Int) =>
                                            some (Sum.inl (r11, r13, IntKind.i64.wrap (p8.snd.snd + (1 : Int))))
                                        else none
                                  else none
                            else none
                          else some (Sum.inr (p8.fst, p8.snd.fst)))
                        ([], [], (0 : Int))).bind
                    fun (r14 : List Int × List Int) =>
                    (whileF N
                          (fun (p15 : List Int × List Int) =>
                            (r34_sum N p15.fst).bind fun (r16 : Int) =>
                              bif decide (r16 < x0) then
                                (whileF N
                                      (fun (p17 : Int × Int) =>
                                        bif decide (p17.snd < (↑(List.length p15.snd) : Int)) then
                                          bif
                                              decide ((0 : Int) ≤ p17.snd) &&
                                                decide (p17.snd < (↑(List.length p15.snd) : Int)) then
                                            bif
                                                decide ((0 : Int) ≤ p17.fst) &&
                                                  decide (p17.fst < (↑(List.length p15.snd) : Int)) then
                                              (bif
                                                      decide
                                                        (List.getD p15.snd (Int.toNat p17.snd) (0 : Int) >
                                                          List.getD p15.snd (Int.toNat p17.fst) (0 : Int)) then
                                                    some p17.snd
                                                  else some p17.fst).bind
                                                fun (r18 : Int) =>
                                                some (Sum.inl (r18, IntKind.i64.wrap (p17.snd + (1 : Int))))
                                            else none
                                          else none
                                        else some (Sum.inr p17.fst))
                                      ((0 : Int), (1 : Int))).bind
                                  fun (r19 : Int) =>
                                  bif decide ((0 : Int) ≤ r19) && decide (r19 < (↑(List.length p15.fst) : Int)) then
                                    bif decide ((0 : Int) ≤ r19) && decide (r19 < (↑(List.length p15.fst) : Int)) then
                                      (some
                                            (List.set p15.fst r19.toNat
                                              (IntKind.i64.wrap
                                                (List.getD p15.fst r19.toNat (0 : Int) + (1 : Int))))).bind
                                        fun (r20 : List Int) =>
                                        bif
                                            decide ((0 : Int) ≤ r19) &&
                                              decide (r19 < (↑(List.length p15.snd) : Int)) then
                                          (some (List.set p15.snd r19.toNat (-1 : Int))).bind fun (r21 : List Int) =>
                                            some (Sum.inl (r20, r21))
                                        else none
                                    else none
                                  else none
                              else some (Sum.inr p15))
                          r14).bind
                      fun (r22 : List Int × List Int) => some (r22.fst, (0 : Int)))
            (fun (p23 : List Int × Int) => some p23) r5
theorem d_r34_Split (N : Nat) : DenF Try.prog 26 ⟨[.t_i64, .l_i64], [.l_i64, .t_i64], [[some 3], [none]], r34_Split N⟩ :=
  den_of (N := N) (gam := [(28, ⟨[.l_i64], [.t_i64], [[none]], r34_sum N⟩), (27, ⟨[.t_i64, .t_i64, .t_i64], [.t_i64, .t_i64], [[none], [none]], r34_Quotient N⟩)]) (txt := []) (hints := [(26, [([0, 0, 1, 1], ⟨[0, 1], [], [(.nrm, [.reg 23 .t_bool [none]])], []⟩), ([0, 1, 0, 1, 1, 1], ⟨[0, 1], [.reg 6 .t_i64 [none]], [(.ex 0, []), (.ret, [.reg 4 .l_i64 [some 3], .reg 5 .t_i64 [none]])], []⟩), ([0, 0, 0, 1, 0, 0, 1, 0, 1, 1, 1], ⟨[0, 1, 6], [], [(.nrm, [.reg 41 .t_bool [none]])], []⟩), ([0, 1, 0, 1, 1, 1, 1, 1, 1, 1], ⟨[0, 1, 7], [.reg 8 .l_i64 [some 3], .reg 9 .l_i64 [some 3], .reg 10 .t_i64 [none]], [(.ex 2, [.reg 8 .l_i64 [some 3], .reg 9 .l_i64 [some 3]])], []⟩), ([0, 0, 1, 1, 1, 1, 1, 1, 1, 1], ⟨[0, 8, 9], [.rowr 8 .l_i64, .rowr 9 .l_i64], [(.ex 4, [.rowr 8 .l_i64, .rowr 9 .l_i64])], []⟩), ([0, 1, 0, 1, 0, 1, 0, 0, 0, 1, 1, 1, 1, 1, 1, 1, 1], ⟨[0, 8, 9], [.reg 13 .t_i64 [none], .reg 14 .t_i64 [none]], [(.ex 6, [.reg 13 .t_i64 [none]])], []⟩), ([1, 0, 0, 1, 0, 0, 1, 0, 1, 0, 1, 0, 0, 0, 1, 1, 1, 1, 1, 1, 1, 1], ⟨[0, 8, 9, 14], [], [(.nrm, [.reg 13 .t_i64 [none]])], []⟩)])]) mixed (.cons (d_r34_sum N) (.cons (d_r34_Quotient N) .nil)) .nil Try.func26 (by kernel_rfl) (by kernel_rfl)

def r39_Take (N : Nat) (x0 : List Pond) (x1 : Int) : Option ((List Pond) × Int) :=
 
  bif decide (x1 < (0 : Int)) then some ([], (2 : Int))
  else
    (r39_Spare N x0).bind fun (r2 : Int) =>
      bif decide (x1 > r2) then some ([], (9 : Int))
      else
        (whileF N
              (fun (p3 : List Int × Int) =>
                bif decide (p3.snd < (↑x0.length : Int)) then
                  bif decide ((0 : Int) ≤ p3.snd) && decide (p3.snd < (↑x0.length : Int)) then
                    bif decide ((0 : Int) ≤ p3.snd) && decide (p3.snd < (↑x0.length : Int)) then
                      (some
                            [IntKind.i64.wrap
                                ((x0.getD (Int.toNat p3.snd) z_Pond).Volume -
                                  (x0.getD (Int.toNat p3.snd) z_Pond).Least)]).bind
                        fun (r4 : List Int) =>
                        bif decide ((List.length p3.fst + r4.length) * 8 ≤ 140737488355328) then
                          (some (p3.fst ++ r4)).bind fun (r5 : List Int) =>
                            some (Sum.inl (r5, IntKind.i64.wrap (p3.snd + (1 : Int))))
                        else none
                    else none
                  else none
                else some (Sum.inr p3.fst))
              ([], (0 : Int))).bind
          fun (r6 : List Int) =>
          bif
              true &&
                (decide ((↑x0.length : Int) ≤ (↑x0.length : Int)) &&
                  decide ((↑x0.length : Int) * (8 : Int) ≤ (140737488355328 : Int))) then
            (some (List.replicate (↑x0.length : Int).toNat (0 : Int))).bind fun (r7 : List Int) =>
              (bif decide (x1 > (0 : Int)) then (r34_Split N x1 r6).bind fun (r8 : List Int × Int) => some r8.fst
                  else some r7).bind
                fun (r9 : List Int) =>
                (whileF N
                      (fun (p10 : List Pond × Int) =>
                        bif decide (p10.snd < (↑x0.length : Int)) then
                          bif decide ((0 : Int) ≤ p10.snd) && decide (p10.snd < (↑x0.length : Int)) then
                            bif decide ((0 : Int) ≤ p10.snd) && decide (p10.snd < (↑r9.length : Int)) then
                              (some
                                    [Pond.mk (x0.getD (Int.toNat p10.snd) z_Pond).ID
                                        (IntKind.i64.wrap
                                          ((x0.getD (Int.toNat p10.snd) z_Pond).Volume -
                                            r9.getD (Int.toNat p10.snd) (0 : Int)))
                                        (x0.getD (Int.toNat p10.snd) z_Pond).Least
                                        (x0.getD (Int.toNat p10.snd) z_Pond).Most
                                        (x0.getD (Int.toNat p10.snd) z_Pond).Inflow]).bind
                                fun (r11 : List Pond) =>
                                bif
                                    decide
                                      ((List.length p10.fst + r11.length) * 40 ≤ 140737488355328) then
                                  (some (p10.fst ++ r11)).bind fun (r12 : List Pond) =>
                                    some (Sum.inl (r12, IntKind.i64.wrap (p10.snd + (1 : Int))))
                                else none
                            else none
                          else none
                        else some (Sum.inr p10.fst))
                      ([], (0 : Int))).bind
                  fun (r13 : List Pond) => some (r13, (0 : Int))
          else none
theorem d_r39_Take (N : Nat) : DenF Try.prog 18 ⟨[.l_Pond, .t_i64], [.l_Pond, .t_i64], [[some 38], [none]], r39_Take N⟩ :=
  den_of (N := N) (gam := [(14, ⟨[.l_Pond], [.t_i64], [[none]], r39_Spare N⟩), (26, ⟨[.t_i64, .l_i64], [.l_i64, .t_i64], [[some 3], [none]], r34_Split N⟩)]) (txt := []) (hints := [(18, [([0, 1, 0, 1, 1, 1, 1], ⟨[0, 1], [.reg 6 .l_i64 [some 3], .reg 7 .t_i64 [none]], [(.ex 0, [.reg 6 .l_i64 [some 3]])], []⟩), ([1, 0, 1, 1, 1, 1, 1, 1], ⟨[0], [], [(.nrm, [.reg 8 .l_i64 [none]])], [6]⟩), ([0, 1, 0, 1, 1, 1, 1, 1, 1, 1, 1], ⟨[0, 8], [.reg 9 .l_Pond [some 38], .reg 10 .t_i64 [none]], [(.ex 2, [.reg 9 .l_Pond [some 38]])], []⟩)])]) mixed (.cons (d_r39_Spare N) (.cons (d_r34_Split N) .nil)) .nil Try.func18 (by kernel_rfl) (by kernel_rfl)

def r39_Same (N : Nat) (x0 x1 : List Pond) : Option Bool :=
 
  bif (↑x0.length : Int) != (↑x1.length : Int) then some false
  else
    (whileF N
          (fun (p2 : Int) =>
            bif decide (p2 < (↑x0.length : Int)) then
              bif decide ((0 : Int) ≤ p2) && decide (p2 < (↑x0.length : Int)) then
                bif decide ((0 : Int) ≤ p2) && decide (p2 < (↑x1.length : Int)) then
                  bif
                      !((x0.getD p2.toNat z_Pond).ID == (x1.getD p2.toNat z_Pond).ID &&
                          ((x0.getD p2.toNat z_Pond).Volume == (x1.getD p2.toNat z_Pond).Volume &&
                            ((x0.getD p2.toNat z_Pond).Least == (x1.getD p2.toNat z_Pond).Least &&
                              ((x0.getD p2.toNat z_Pond).Most == (x1.getD p2.toNat z_Pond).Most &&
                                ((x0.getD p2.toNat z_Pond).Inflow == (x1.getD p2.toNat z_Pond).Inflow && true))))) then
                    some (Sum.inr (Sum.inr false))
                  else some (Sum.inl (IntKind.i64.wrap (p2 + (1 : Int))))
                else none
              else none
            else some (Sum.inr (Sum.inl ())))
          (0 : Int)).bind
      fun (r3 : Unit ⊕ Bool) => Sum.elim (fun (p4 : Unit) => some true) (fun (p5 : Bool) => some p5) r3
theorem d_r39_Same (N : Nat) : DenF Try.prog 19 ⟨[.l_Pond, .l_Pond], [.t_bool], [[none]], r39_Same N⟩ :=
  den_of (N := N) (gam := []) (txt := []) (hints := [(19, [([0, 1, 0, 1, 1], ⟨[0, 1], [.reg 5 .t_i64 [none]], [(.ex 0, []), (.ret, [.reg 4 .t_bool [none]])], []⟩)])]) mixed .nil .nil Try.func19 (by kernel_rfl) (by kernel_rfl)
end Go.Proofs.Ytoniopgegcngpaa
