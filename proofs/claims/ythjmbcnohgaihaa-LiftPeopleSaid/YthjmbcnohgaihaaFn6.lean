/- Written by a program (gen.py, asm.py): what each function computes, as a plain function, and that its text computes it. No condition. -/
import Derived.Test.YthjmbcnohgaihaaFn5
import Derived.Test.YthjmbcnohgaihaaCmo
namespace Go.Proofs.Ythjmbcnohgaihaa
open Go.Cm Go.Proofs
set_option linter.unusedVariables false
set_option maxRecDepth 100000

def l20_small (N : Nat) (x0 : Make) : Option Bool :=
 
  (bif decide ((↑x0.Brakes.length : Int) ≤ (60 : Int)) then
        bif decide ((↑x0.Chain.Contacts.length : Int) ≤ (60 : Int)) then
          bif decide ((↑x0.Checks.Items.length : Int) ≤ (60 : Int)) then
            some (decide ((↑x0.Checks.Signs.length : Int) ≤ (60 : Int)))
          else some false
        else some false
      else some false).bind
    fun (r1 : Bool) => some r1
theorem d_l20_small (N : Nat) : DenF Try.prog 9 ⟨[.t_Make], [.t_bool], [[none]], l20_small N⟩ :=
  den_of (N := N) (gam := []) (txt := []) (hints := [(9, [([0, 1], ⟨[], [], [(.nrm, [.reg 2 .t_bool [none]])], []⟩)])]) mixed .nil .nil Try.func9 (by kernel_rfl) (by kernel_rfl)

def l20_after (N : Nat) (x0 : LiftState) (x1 : List LiftEvent) : Option LiftState :=
 
  (whileF N
        (fun (p2 : Int × LiftState) =>
          bif decide (p2.fst < (↑x1.length : Int)) then
            bif decide ((0 : Int) ≤ p2.fst) && decide (p2.fst < (↑x1.length : Int)) then
              (lift_Do N p2.snd (x1.getD (Int.toNat p2.fst) z_LiftEvent)).bind fun (r3 : LiftState × Int) =>
                (bif r3.snd == (0 : Int) then some r3.fst else some p2.snd).bind fun (r4 : LiftState) =>
                  some (Sum.inl (IntKind.i64.wrap (p2.fst + (1 : Int)), r4))
            else none
          else some (Sum.inr p2.snd))
        ((0 : Int), x0)).bind
    fun (r5 : LiftState) => some r5
theorem d_l20_after (N : Nat) : DenF Try.prog 10 ⟨[.t_LiftState, .l_LiftEvent], [.t_LiftState], [[none, none, none, none, none, none, none, none, none, none, none, none, none, none, none, none, none, none, none, none, none, none, none, none, none, none, none, none, none, none, none, none, none, none, none, none, none]], l20_after N⟩ :=
  den_of (N := N) (gam := [(14, ⟨[.t_LiftState, .t_LiftEvent], [.t_LiftState, .t_i64], [[none, none, none, none, none, none, none, none, none, none, none, none, none, none, none, none, none, none, none, none, none, none, none, none, none, none, none, none, none, none, none, none, none, none, none, none, none], [none]], lift_Do N⟩)]) (txt := []) (hints := [(10, [([0, 1, 0, 1], ⟨[1, 2, 4], [.reg 5 .t_i64 [none], .var 2 .t_LiftState [none, none, none, none, none, none, none, none, none, none, none, none, none, none, none, none, none, none, none, none, none, none, none, none, none, none, none, none, none, none, none, none, none, none, none, none, none]], [(.ex 0, [.var 2 .t_LiftState [none, none, none, none, none, none, none, none, none, none, none, none, none, none, none, none, none, none, none, none, none, none, none, none, none, none, none, none, none, none, none, none, none, none, none, none, none]])], []⟩), ([1, 1, 0, 0, 1, 0, 0, 1, 0, 1], ⟨[1, 2, 4, 5], [], [(.nrm, [.var 2 .t_LiftState [none, none, none, none, none, none, none, none, none, none, none, none, none, none, none, none, none, none, none, none, none, none, none, none, none, none, none, none, none, none, none, none, none, none, none, none, none]])], []⟩)])]) mixed (.cons (d_lift_Do N) .nil) .nil Try.func10 (by kernel_rfl) (by kernel_rfl)

def l20_LiftSafe (N : Nat) (x0 : Make) (x1 : List LiftEvent) : Option Bool :=
 
  (l20_alive N).bind fun (r2 : Bool) =>
    bif !r2 then some false
    else
      (l20_made N x0).bind fun (r3 : LiftState × Int) =>
        ((l20_small N x0).bind fun (r4 : Bool) =>
              bif !r4 then some true
              else bif decide ((↑x1.length : Int) > (60 : Int)) then some true else some (r3.snd != (0 : Int))).bind
          fun (r5 : Bool) =>
          bif r5 then some true
          else
            (whileF N
                  (fun (p6 : Int × LiftState) =>
                    bif decide (p6.fst < (↑x1.length : Int)) then
                      bif
                          decide ((0 : Int) ≤ p6.fst) &&
                            (decide (p6.fst ≤ IntKind.i64.wrap (p6.fst + (1 : Int))) &&
                              decide (IntKind.i64.wrap (p6.fst + (1 : Int)) ≤ (↑x1.length : Int))) then
                        (l20_after N p6.snd
                              (List.drop (Int.toNat p6.fst)
                                (List.take (IntKind.i64.wrap (p6.fst + (1 : Int))).toNat x1))).bind
                          fun (r7 : LiftState) =>
                          ((lift_Right N r7).bind fun (r8 : Bool) =>
                                bif !r8 then some true else (lift_Safe N r7).bind fun (r9 : Bool) => some !r9).bind
                            fun (r10 : Bool) =>
                            bif r10 then some (Sum.inr (Sum.inr (false, r7)))
                            else
                              (bif r7.Drive.State == (1 : Int) then
                                    (lift_May N r7).bind fun (r11 : Int) =>
                                      bif r11 != (0 : Int) then some true else some (r7.Mode == (0 : Int))
                                  else some false).bind
                                fun (r12 : Bool) =>
                                bif r12 then some (Sum.inr (Sum.inr (false, r7)))
                                else some (Sum.inl (IntKind.i64.wrap (p6.fst + (1 : Int)), r7))
                      else none
                    else some (Sum.inr (Sum.inl p6.snd)))
                  ((0 : Int), r3.fst)).bind
              fun (r13 : LiftState ⊕ Bool × LiftState) =>
              Sum.elim (fun (p14 : LiftState) => some true) (fun (p15 : Bool × LiftState) => some p15.fst) r13
theorem d_l20_LiftSafe (N : Nat) : DenF Try.prog 3 ⟨[.t_Make, .l_LiftEvent], [.t_bool], [[none]], l20_LiftSafe N⟩ :=
  den_of (N := N) (gam := [(7, ⟨[], [.t_bool], [[none]], l20_alive N⟩), (8, ⟨[.t_Make], [.t_LiftState, .t_i64], [[none, none, none, none, none, none, none, none, none, none, none, none, none, none, none, none, some 94, some 62, none, none, none, none, none, none, none, none, none, some 3, some 3, none, some 3, none, some 100, none, none, none, none], [none]], l20_made N⟩), (9, ⟨[.t_Make], [.t_bool], [[none]], l20_small N⟩), (10, ⟨[.t_LiftState, .l_LiftEvent], [.t_LiftState], [[none, none, none, none, none, none, none, none, none, none, none, none, none, none, none, none, none, none, none, none, none, none, none, none, none, none, none, none, none, none, none, none, none, none, none, none, none]], l20_after N⟩), (11, ⟨[.t_LiftState], [.t_bool], [[none]], lift_Right N⟩), (12, ⟨[.t_LiftState], [.t_bool], [[none]], lift_Safe N⟩), (13, ⟨[.t_LiftState], [.t_i64], [[none]], lift_May N⟩)]) (txt := []) (hints := [(3, [([0, 0, 1, 1, 1], ⟨[1, 5], [], [(.nrm, [.reg 26 .t_bool [none]])], []⟩), ([0, 1, 0, 1, 1, 1, 1], ⟨[1, 5], [.reg 7 .t_i64 [none], .var 5 .t_LiftState [none, none, none, none, none, none, none, none, none, none, none, none, none, none, none, none, none, none, none, none, none, none, none, none, none, none, none, none, none, none, none, none, none, none, none, none, none]], [(.ex 0, [.var 5 .t_LiftState [none, none, none, none, none, none, none, none, none, none, none, none, none, none, none, none, none, none, none, none, none, none, none, none, none, none, none, none, none, none, none, none, none, none, none, none, none]]), (.ret, [.reg 4 .t_bool [none], .var 5 .t_LiftState [none, none, none, none, none, none, none, none, none, none, none, none, none, none, none, none, none, none, none, none, none, none, none, none, none, none, none, none, none, none, none, none, none, none, none, none, none]])], []⟩), ([0, 0, 1, 0, 0, 1, 0, 0, 1, 0, 1, 1, 1, 1], ⟨[1, 5, 7], [], [(.nrm, [.reg 47 .t_bool [none]])], []⟩), ([0, 1, 1, 0, 0, 1, 0, 0, 1, 0, 1, 1, 1, 1], ⟨[1, 5, 7], [], [(.nrm, [.reg 61 .t_bool [none]])], []⟩)])]) mixed (.cons (d_l20_alive N) (.cons (d_l20_made N) (.cons (d_l20_small N) (.cons (d_l20_after N) (.cons (d_lift_Right N) (.cons (d_lift_Safe N) (.cons (d_lift_May N) .nil))))))) .nil Try.func3 (by kernel_rfl) (by kernel_rfl)

def r18_Length (N : Nat) (x0 : Queue) : Option Int :=
 
  (whileF N
        (fun (p1 : Int × Int) =>
          bif decide (p1.snd < (↑x0.Groups.length : Int)) then
            bif decide ((0 : Int) ≤ p1.snd) && decide (p1.snd < (↑x0.Groups.length : Int)) then
              some
                (Sum.inl
                  (IntKind.i64.wrap (p1.fst + x0.Groups.getD (Int.toNat p1.snd) (0 : Int)),
                    IntKind.i64.wrap (p1.snd + (1 : Int))))
            else none
          else some (Sum.inr p1.fst))
        (x0.Singles, (0 : Int))).bind
    fun (r2 : Int) => some r2
theorem d_r18_Length (N : Nat) : DenF Try.prog 15 ⟨[.t_Queue], [.t_i64], [[none]], r18_Length N⟩ :=
  den_of (N := N) (gam := []) (txt := []) (hints := [(15, [([0, 1, 0, 1, 1], ⟨[1], [.reg 3 .t_i64 [none], .reg 4 .t_i64 [none]], [(.ex 0, [.reg 3 .t_i64 [none]])], []⟩)])]) mixed .nil .nil Try.func15 (by kernel_rfl) (by kernel_rfl)

def r17_People (N : Nat) (x0 : Line) : Option Int :=
 
  (whileF N
        (fun (p1 : Int × Int) =>
          bif decide (p1.snd < (↑x0.Load.length : Int)) then
            bif decide ((0 : Int) ≤ p1.snd) && decide (p1.snd < (↑x0.Load.length : Int)) then
              some
                (Sum.inl
                  (IntKind.i64.wrap (p1.fst + x0.Load.getD (Int.toNat p1.snd) (0 : Int)),
                    IntKind.i64.wrap (p1.snd + (1 : Int))))
            else none
          else some (Sum.inr p1.fst))
        ((0 : Int), (0 : Int))).bind
    fun (r2 : Int) => some r2
theorem d_r17_People (N : Nat) : DenF Try.prog 16 ⟨[.t_Line], [.t_i64], [[none]], r17_People N⟩ :=
  den_of (N := N) (gam := []) (txt := []) (hints := [(16, [([0, 1, 0, 1, 1], ⟨[1], [.reg 3 .t_i64 [none], .reg 4 .t_i64 [none]], [(.ex 0, [.reg 3 .t_i64 [none]])], []⟩)])]) mixed .nil .nil Try.func16 (by kernel_rfl) (by kernel_rfl)

def l20_LiftPeople (N : Nat) (x0 : Make) (x1 : List LiftEvent) : Option Bool :=
 
  (l20_alive N).bind fun (r2 : Bool) =>
    bif !r2 then some false
    else
      (l20_made N x0).bind fun (r3 : LiftState × Int) =>
        ((l20_small N x0).bind fun (r4 : Bool) =>
              bif !r4 then some true
              else bif decide ((↑x1.length : Int) > (60 : Int)) then some true else some (r3.snd != (0 : Int))).bind
          fun (r5 : Bool) =>
          bif r5 then some true
          else
            (whileF N
                  (fun (p6 : Int × Int × LiftState) =>
                    bif decide (p6.snd.fst < (↑x1.length : Int)) then
                      ((bif decide ((0 : Int) ≤ p6.snd.fst) && decide (p6.snd.fst < (↑x1.length : Int)) then
                                bif (x1.getD (Int.toNat p6.snd.fst) z_LiftEvent).Kind == (3 : Int) then some true
                                else
                                  bif decide ((0 : Int) ≤ p6.snd.fst) && decide (p6.snd.fst < (↑x1.length : Int)) then
                                    some ((x1.getD (Int.toNat p6.snd.fst) z_LiftEvent).Kind == (17 : Int))
                                  else none
                              else none).bind
                            fun (r7 : Bool) =>
                            bif r7 then some (Sum.inl (p6.fst, p6.snd.snd))
                            else
                              bif decide ((0 : Int) ≤ p6.snd.fst) && decide (p6.snd.fst < (↑x1.length : Int)) then
                                (lift_Do N p6.snd.snd (x1.getD (Int.toNat p6.snd.fst) z_LiftEvent)).bind
                                  fun (r8 : LiftState × Int) =>
                                  bif r8.snd != (0 : Int) then some (Sum.inl (p6.fst, p6.snd.snd))
                                  else
                                    bif decide ((0 : Int) ≤ p6.snd.fst) && decide (p6.snd.fst < (↑x1.length : Int)) then
                                      (bif (x1.getD (Int.toNat p6.snd.fst) z_LiftEvent).Kind == (16 : Int) then
                                            bif
                                                decide ((0 : Int) ≤ p6.snd.fst) &&
                                                  decide (p6.snd.fst < (↑x1.length : Int)) then
                                              some
                                                (IntKind.i64.wrap
                                                  (p6.fst + (x1.getD (Int.toNat p6.snd.fst) z_LiftEvent).N))
                                            else none
                                          else some p6.fst).bind
                                        fun (r9 : Int) =>
                                        ((r18_Length N r8.fst.Queue).bind fun (r10 : Int) =>
                                              bif IntKind.i64.wrap (r10 + r8.fst.Up) != r9 then some true
                                              else
                                                (r17_People N r8.fst.Line).bind fun (r11 : Int) =>
                                                  some (IntKind.i64.wrap (r8.fst.Up - r8.fst.Off) != r11)).bind
                                          fun (r12 : Bool) =>
                                          bif r12 then some (Sum.inr (false, r8.fst)) else some (Sum.inl (r9, r8.fst))
                                    else none
                              else none).bind
                        fun (r13 : Int × LiftState ⊕ Bool × LiftState) =>
                        Sum.elim
                          (fun (p14 : Int × LiftState) =>
                            some (Sum.inl (p14.fst, IntKind.i64.wrap (p6.snd.fst + (1 : Int)), p14.snd)))
                          (fun (p15 : Bool × LiftState) => some (Sum.inr (Sum.inr p15))) r13
                    else some (Sum.inr (Sum.inl p6.snd.snd)))
                  ((0 : Int), (0 : Int), r3.fst)).bind
              fun (r16 : LiftState ⊕ Bool × LiftState) =>
              Sum.elim (fun (p17 : LiftState) => some true) (fun (p18 : Bool × LiftState) => some p18.fst) r16
theorem d_l20_LiftPeople (N : Nat) : DenF Try.prog 4 ⟨[.t_Make, .l_LiftEvent], [.t_bool], [[none]], l20_LiftPeople N⟩ :=
  den_of (N := N) (gam := [(7, ⟨[], [.t_bool], [[none]], l20_alive N⟩), (8, ⟨[.t_Make], [.t_LiftState, .t_i64], [[none, none, none, none, none, none, none, none, none, none, none, none, none, none, none, none, some 94, some 62, none, none, none, none, none, none, none, none, none, some 3, some 3, none, some 3, none, some 100, none, none, none, none], [none]], l20_made N⟩), (9, ⟨[.t_Make], [.t_bool], [[none]], l20_small N⟩), (14, ⟨[.t_LiftState, .t_LiftEvent], [.t_LiftState, .t_i64], [[none, none, none, none, none, none, none, none, none, none, none, none, none, none, none, none, none, none, none, none, none, none, none, none, none, none, none, none, none, none, none, none, none, none, none, none, none], [none]], lift_Do N⟩), (15, ⟨[.t_Queue], [.t_i64], [[none]], r18_Length N⟩), (16, ⟨[.t_Line], [.t_i64], [[none]], r17_People N⟩)]) (txt := []) (hints := [(4, [([0, 0, 1, 1, 1], ⟨[1, 5], [], [(.nrm, [.reg 29 .t_bool [none]])], []⟩), ([0, 1, 0, 1, 1, 1, 1, 1], ⟨[1, 5], [.reg 7 .t_i64 [none], .reg 8 .t_i64 [none], .var 5 .t_LiftState [none, none, none, none, none, none, none, none, none, none, none, none, none, none, none, none, none, none, none, none, none, none, none, none, none, none, none, none, none, none, none, none, none, none, none, none, none]], [(.ex 0, [.var 5 .t_LiftState [none, none, none, none, none, none, none, none, none, none, none, none, none, none, none, none, none, none, none, none, none, none, none, none, none, none, none, none, none, none, none, none, none, none, none, none, none]]), (.ret, [.reg 4 .t_bool [none], .var 5 .t_LiftState [none, none, none, none, none, none, none, none, none, none, none, none, none, none, none, none, none, none, none, none, none, none, none, none, none, none, none, none, none, none, none, none, none, none, none, none, none]])], []⟩), ([0, 1, 0, 0, 1, 0, 1, 1, 1, 1, 1], ⟨[1, 5, 8], [], [(.nrm, [.reg 7 .t_i64 [none], .var 5 .t_LiftState [none, none, none, none, none, none, none, none, none, none, none, none, none, none, none, none, none, none, none, none, none, none, none, none, none, none, none, none, none, none, none, none, none, none, none, none, none]]), (.ret, [.reg 4 .t_bool [none], .var 5 .t_LiftState [none, none, none, none, none, none, none, none, none, none, none, none, none, none, none, none, none, none, none, none, none, none, none, none, none, none, none, none, none, none, none, none, none, none, none, none, none]])], []⟩), ([0, 0, 0, 0, 1, 0, 0, 1, 0, 1, 1, 1, 1, 1], ⟨[1, 5, 7, 8], [], [(.nrm, [.reg 49 .t_bool [none]])], []⟩), ([1, 0, 1, 1, 1, 0, 0, 1, 0, 0, 1, 0, 1, 1, 1, 1, 1], ⟨[1, 5, 8, 9], [], [(.nrm, [.reg 7 .t_i64 [none]])], []⟩), ([0, 1, 1, 1, 1, 1, 0, 0, 1, 0, 0, 1, 0, 1, 1, 1, 1, 1], ⟨[1, 5, 7, 8], [], [(.nrm, [.reg 93 .t_bool [none]])], []⟩)])]) mixed (.cons (d_l20_alive N) (.cons (d_l20_made N) (.cons (d_l20_small N) (.cons (d_lift_Do N) (.cons (d_r18_Length N) (.cons (d_r17_People N) .nil)))))) .nil Try.func4 (by kernel_rfl) (by kernel_rfl)

def l20_LiftStops (N : Nat) (x0 : Make) (x1 : List LiftEvent) (x2 : Int) : Option Bool :=
 
  (l20_alive N).bind fun (r3 : Bool) =>
    bif !r3 then some false
    else
      (l20_made N x0).bind fun (r4 : LiftState × Int) =>
        ((l20_small N x0).bind fun (r5 : Bool) =>
              bif !r5 then some true
              else bif decide ((↑x1.length : Int) > (60 : Int)) then some true else some (r4.snd != (0 : Int))).bind
          fun (r6 : Bool) =>
          bif r6 then some true
          else
            (l20_after N r4.fst x1).bind fun (r7 : LiftState) =>
              bif r7.Drive.State != (1 : Int) then some true
              else
                (whileF N
                      (fun (p8 : Int) =>
                        bif decide (p8 < (↑r7.Chain.Contacts.length : Int)) then
                          (bif decide ((0 : Int) ≤ p8) && decide (p8 < (↑r7.Chain.Contacts.length : Int)) then
                                bif (r7.Chain.Contacts.getD p8.toNat z_Contact).ID == x2 then
                                  bif decide ((0 : Int) ≤ p8) && decide (p8 < (↑r7.Chain.Contacts.length : Int)) then
                                    some ((r7.Chain.Contacts.getD p8.toNat z_Contact).Until != (0 : Int))
                                  else none
                                else some false
                              else none).bind
                            fun (r9 : Bool) =>
                            bif r9 then some (Sum.inr (Sum.inr true))
                            else some (Sum.inl (IntKind.i64.wrap (p8 + (1 : Int))))
                        else some (Sum.inr (Sum.inl ())))
                      (0 : Int)).bind
                  fun (r10 : Unit ⊕ Bool) =>
                  Sum.elim
                    (fun (p11 : Unit) =>
                      (lift_Do N r7 (LiftEvent.mk (8 : Int) x2 (0 : Int) (0 : Int))).bind fun (r12 : LiftState × Int) =>
                        bif r12.snd != (0 : Int) then some (r12.snd == (8 : Int))
                        else
                          (bif r12.fst.Drive.State != (3 : Int) then some true
                              else some (r12.fst.Drive.Target != (0 : Int))).bind
                            fun (r13 : Bool) =>
                            bif r13 then some false
                            else
                              (lift_Do N r12.fst (LiftEvent.mk (1 : Int) (300 : Int) (0 : Int) (0 : Int))).bind
                                fun (r14 : LiftState × Int) =>
                                bif r14.snd != (0 : Int) then
                                  (bif r14.snd == (2 : Int) then some (decide (r12.fst.Time > (19999700 : Int)))
                                      else some false).bind
                                    fun (r15 : Bool) => some r15
                                else
                                  (bif r14.fst.Drive.Speed == (0 : Int) then some (r14.fst.Drive.State == (3 : Int))
                                      else some false).bind
                                    fun (r16 : Bool) => some r16)
                    (fun (p17 : Bool) => some p17) r10
theorem d_l20_LiftStops (N : Nat) : DenF Try.prog 5 ⟨[.t_Make, .l_LiftEvent, .t_i64], [.t_bool], [[none]], l20_LiftStops N⟩ :=
  den_of (N := N) (gam := [(7, ⟨[], [.t_bool], [[none]], l20_alive N⟩), (8, ⟨[.t_Make], [.t_LiftState, .t_i64], [[none, none, none, none, none, none, none, none, none, none, none, none, none, none, none, none, some 94, some 62, none, none, none, none, none, none, none, none, none, some 3, some 3, none, some 3, none, some 100, none, none, none, none], [none]], l20_made N⟩), (9, ⟨[.t_Make], [.t_bool], [[none]], l20_small N⟩), (10, ⟨[.t_LiftState, .l_LiftEvent], [.t_LiftState], [[none, none, none, none, none, none, none, none, none, none, none, none, none, none, none, none, none, none, none, none, none, none, none, none, none, none, none, none, none, none, none, none, none, none, none, none, none]], l20_after N⟩), (14, ⟨[.t_LiftState, .t_LiftEvent], [.t_LiftState, .t_i64], [[none, none, none, none, none, none, none, none, none, none, none, none, none, none, none, none, none, none, none, none, none, none, none, none, none, none, none, none, none, none, none, none, none, none, none, none, none], [none]], lift_Do N⟩)]) (txt := []) (hints := [(5, [([0, 0, 1, 1, 1], ⟨[1, 2, 7], [], [(.nrm, [.reg 31 .t_bool [none]])], []⟩), ([0, 1, 0, 1, 1, 1, 1, 1, 1], ⟨[2, 7], [.reg 9 .t_i64 [none]], [(.ex 0, []), (.ret, [.reg 6 .t_bool [none]])], []⟩), ([0, 0, 0, 1, 0, 0, 1, 0, 1, 1, 1, 1, 1, 1], ⟨[2, 7, 9], [], [(.nrm, [.reg 65 .t_bool [none]])], []⟩), ([0, 0, 1, 1, 1, 1, 1, 1, 1, 1, 1], ⟨[10], [], [(.nrm, [.reg 86 .t_bool [none]])], []⟩), ([0, 0, 1, 0, 1, 1, 1, 1, 1, 1, 1, 1, 1, 1, 1], ⟨[], [], [(.nrm, [.reg 6 .t_bool [none]])], []⟩), ([0, 1, 1, 1, 1, 1, 1, 1, 1, 1, 1, 1, 1], ⟨[], [], [(.nrm, [.reg 6 .t_bool [none]])], []⟩)])]) mixed (.cons (d_l20_alive N) (.cons (d_l20_made N) (.cons (d_l20_small N) (.cons (d_l20_after N) (.cons (d_lift_Do N) .nil))))) .nil Try.func5 (by kernel_rfl) (by kernel_rfl)

def l20_LiftCloses (N : Nat) (x0 : Make) (x1 x2 : List LiftEvent) : Option Bool :=
 
  (l20_alive N).bind fun (r3 : Bool) =>
    bif !r3 then some false
    else
      (l20_made N x0).bind fun (r4 : LiftState × Int) =>
        ((l20_small N x0).bind fun (r5 : Bool) =>
              bif !r5 then some true
              else
                bif decide ((↑x1.length : Int) > (60 : Int)) then some true
                else bif decide ((↑x2.length : Int) > (60 : Int)) then some true else some (r4.snd != (0 : Int))).bind
          fun (r6 : Bool) =>
          bif r6 then some true
          else
            (l20_after N r4.fst x1).bind fun (r7 : LiftState) =>
              (lift_Do N r7 (LiftEvent.mk (3 : Int) (0 : Int) (0 : Int) (0 : Int))).bind fun (r8 : LiftState × Int) =>
                bif r8.snd != (0 : Int) then
                  (bif r8.snd == (10 : Int) then some (r7.Mode != (1 : Int)) else some false).bind fun (r9 : Bool) =>
                    some r9
                else
                  (whileF N
                        (fun (p10 : Int × LiftState) =>
                          bif decide (p10.fst < (↑x2.length : Int)) then
                            bif p10.snd.Mode != (3 : Int) then some (Sum.inr (Sum.inr (true, p10.snd)))
                            else
                              bif
                                  decide ((0 : Int) ≤ p10.fst) &&
                                    (decide (p10.fst ≤ IntKind.i64.wrap (p10.fst + (1 : Int))) &&
                                      decide (IntKind.i64.wrap (p10.fst + (1 : Int)) ≤ (↑x2.length : Int))) then
                                (l20_after N p10.snd
                                      (List.drop (Int.toNat p10.fst)
                                        (List.take (IntKind.i64.wrap (p10.fst + (1 : Int))).toNat x2))).bind
                                  fun (r11 : LiftState) =>
                                  bif r11.Up != r7.Up then some (Sum.inr (Sum.inr (false, r11)))
                                  else
                                    (bif r11.Mode == (3 : Int) then
                                          (r17_People N r11.Line).bind fun (r12 : Int) => some (r12 == (0 : Int))
                                        else some false).bind
                                      fun (r13 : Bool) =>
                                      bif r13 then some (Sum.inr (Sum.inr (false, r11)))
                                      else some (Sum.inl (IntKind.i64.wrap (p10.fst + (1 : Int)), r11))
                              else none
                          else some (Sum.inr (Sum.inl p10.snd)))
                        ((0 : Int), r8.fst)).bind
                    fun (r14 : LiftState ⊕ Bool × LiftState) =>
                    Sum.elim (fun (p15 : LiftState) => some true) (fun (p16 : Bool × LiftState) => some p16.fst) r14
theorem d_l20_LiftCloses (N : Nat) : DenF Try.prog 6 ⟨[.t_Make, .l_LiftEvent, .l_LiftEvent], [.t_bool], [[none]], l20_LiftCloses N⟩ :=
  den_of (N := N) (gam := [(7, ⟨[], [.t_bool], [[none]], l20_alive N⟩), (8, ⟨[.t_Make], [.t_LiftState, .t_i64], [[none, none, none, none, none, none, none, none, none, none, none, none, none, none, none, none, some 94, some 62, none, none, none, none, none, none, none, none, none, some 3, some 3, none, some 3, none, some 100, none, none, none, none], [none]], l20_made N⟩), (9, ⟨[.t_Make], [.t_bool], [[none]], l20_small N⟩), (10, ⟨[.t_LiftState, .l_LiftEvent], [.t_LiftState], [[none, none, none, none, none, none, none, none, none, none, none, none, none, none, none, none, none, none, none, none, none, none, none, none, none, none, none, none, none, none, none, none, none, none, none, none, none]], l20_after N⟩), (14, ⟨[.t_LiftState, .t_LiftEvent], [.t_LiftState, .t_i64], [[none, none, none, none, none, none, none, none, none, none, none, none, none, none, none, none, none, none, none, none, none, none, none, none, none, none, none, none, none, none, none, none, none, none, none, none, none], [none]], lift_Do N⟩), (16, ⟨[.t_Line], [.t_i64], [[none]], r17_People N⟩)]) (txt := []) (hints := [(6, [([0, 0, 1, 1, 1], ⟨[1, 2, 7], [], [(.nrm, [.reg 35 .t_bool [none]])], []⟩), ([0, 0, 1, 0, 1, 1, 1, 1, 1, 1], ⟨[], [], [(.nrm, [.reg 6 .t_bool [none]])], []⟩), ([0, 1, 0, 1, 1, 1, 1, 1, 1, 1], ⟨[2, 7, 9], [.reg 11 .t_i64 [none], .var 9 .t_LiftState [none, none, none, none, none, none, none, none, none, none, none, none, none, none, none, none, none, none, none, none, none, none, none, none, none, none, none, none, none, none, none, none, none, none, none, none, none]], [(.ex 0, [.var 9 .t_LiftState [none, none, none, none, none, none, none, none, none, none, none, none, none, none, none, none, none, none, none, none, none, none, none, none, none, none, none, none, none, none, none, none, none, none, none, none, none]]), (.ret, [.reg 6 .t_bool [none], .var 9 .t_LiftState [none, none, none, none, none, none, none, none, none, none, none, none, none, none, none, none, none, none, none, none, none, none, none, none, none, none, none, none, none, none, none, none, none, none, none, none, none]])], []⟩), ([0, 1, 1, 1, 0, 0, 1, 0, 0, 1, 0, 1, 1, 1, 1, 1, 1, 1], ⟨[2, 7, 9, 11], [], [(.nrm, [.reg 83 .t_bool [none]])], []⟩)])]) mixed (.cons (d_l20_alive N) (.cons (d_l20_made N) (.cons (d_l20_small N) (.cons (d_l20_after N) (.cons (d_lift_Do N) (.cons (d_r17_People N) .nil)))))) .nil Try.func6 (by kernel_rfl) (by kernel_rfl)
end Go.Proofs.Ythjmbcnohgaihaa
