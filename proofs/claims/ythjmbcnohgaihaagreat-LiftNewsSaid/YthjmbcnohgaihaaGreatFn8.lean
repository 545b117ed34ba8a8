/- Written by a program (gen.py, asm.py): what each function computes, as a plain function, and that its text computes it. No condition. -/
import Derived.Test.YthjmbcnohgaihaaGreatFn7
import Derived.Test.YthjmbcnohgaihaaGreatCmo
namespace Go.Proofs.YthjmbcnohgaihaaGreat
open Go.Cm Go.Proofs
set_option linter.unusedVariables false
set_option maxRecDepth 100000

def r15_Valid (N : Nat) (x0 : Brake) (x1 : Int) : Option Bool :=
 
  (bif decide (x0.Tested ≥ (0 : Int)) then
        bif decide (x1 ≥ x0.Tested) then
          bif decide (IntKind.i64.wrap (x1 - x0.Tested) < (604800 : Int)) then
            (r15_nine N x0.Force).bind fun (r2 : Int) => some (decide (x0.Measured ≥ r2))
          else some false
        else some false
      else some false).bind
    fun (r3 : Bool) => some r3
theorem d_r15_Valid (N : Nat) : DenF Tryz.prog 120 ⟨[.t_Brake, .t_i64], [.t_bool], [[none]], r15_Valid N⟩ :=
  den_of (N := N) (gam := [(147, ⟨[.t_i64], [.t_i64], [[none]], r15_nine N⟩)]) (txt := []) (hints := [(120, [([0, 1], ⟨[], [], [(.nrm, [.reg 4 .t_bool [none]])], []⟩)])]) mixed (.cons (d_r15_nine N) .nil) .nil Tryz.func120 (by kernel_rfl) (by kernel_rfl)

def r15_Force (N : Nat) (x0 : List Brake) (x1 x2 : Int) : Option Int :=
 
  (whileF N
        (fun (p3 : Int × Int) =>
          bif decide (p3.snd < (↑x0.length : Int)) then
            (bif decide ((0 : Int) ≤ p3.snd) && decide (p3.snd < (↑x0.length : Int)) then
                  bif (x0.getD (Int.toNat p3.snd) z_Brake).Kind == x1 then
                    bif decide ((0 : Int) ≤ p3.snd) && decide (p3.snd < (↑x0.length : Int)) then
                      (r15_Valid N (x0.getD (Int.toNat p3.snd) z_Brake) x2).bind fun (r4 : Bool) => some r4
                    else none
                  else some false
                else none).bind
              fun (r5 : Bool) =>
              (bif r5 then
                    bif decide ((0 : Int) ≤ p3.snd) && decide (p3.snd < (↑x0.length : Int)) then
                      some (IntKind.i64.wrap (p3.fst + (x0.getD (Int.toNat p3.snd) z_Brake).Measured))
                    else none
                  else some p3.fst).bind
                fun (r6 : Int) => some (Sum.inl (r6, IntKind.i64.wrap (p3.snd + (1 : Int))))
          else some (Sum.inr p3.fst))
        ((0 : Int), (0 : Int))).bind
    fun (r7 : Int) => some r7
theorem d_r15_Force (N : Nat) : DenF Tryz.prog 79 ⟨[.l_Brake, .t_i64, .t_i64], [.t_i64], [[none]], r15_Force N⟩ :=
  den_of (N := N) (gam := [(120, ⟨[.t_Brake, .t_i64], [.t_bool], [[none]], r15_Valid N⟩)]) (txt := []) (hints := [(79, [([0, 1, 0, 1, 1], ⟨[0, 1, 2], [.reg 7 .t_i64 [none], .reg 8 .t_i64 [none]], [(.ex 0, [.reg 7 .t_i64 [none]])], []⟩), ([0, 0, 0, 1, 0, 0, 1, 0, 1, 1], ⟨[0, 1, 2, 7, 8], [], [(.nrm, [.reg 29 .t_bool [none]])], []⟩), ([1, 0, 0, 1, 0, 0, 1, 0, 1, 1], ⟨[0, 1, 2, 8], [], [(.nrm, [.reg 7 .t_i64 [none]])], []⟩)])]) mixed (.cons (d_r15_Valid N) .nil) .nil Tryz.func79 (by kernel_rfl) (by kernel_rfl)

def r15_Enough (N : Nat) (x0 : List Brake) (x1 x2 : Int) : Option Bool :=
 
  ((r15_Force N x0 (0 : Int) x2).bind fun (r3 : Int) =>
        bif decide (r3 ≥ x1) then (r15_Force N x0 (1 : Int) x2).bind fun (r4 : Int) => some (decide (r4 ≥ x1))
        else some false).bind
    fun (r5 : Bool) => some r5
theorem d_r15_Enough (N : Nat) : DenF Tryz.prog 50 ⟨[.l_Brake, .t_i64, .t_i64], [.t_bool], [[none]], r15_Enough N⟩ :=
  den_of (N := N) (gam := [(79, ⟨[.l_Brake, .t_i64, .t_i64], [.t_i64], [[none]], r15_Force N⟩)]) (txt := []) (hints := [(50, [([0, 1], ⟨[], [], [(.nrm, [.reg 6 .t_bool [none]])], []⟩)])]) mixed (.cons (d_r15_Force N) .nil) .nil Tryz.func50 (by kernel_rfl) (by kernel_rfl)

def r19_end (N : Nat) (x0 : Checklist) (x1 x2 : Int) : Option Int :=
 
  (whileF N
        (fun (p3 : Int × Int) =>
          bif decide (p3.snd < (↑x0.Signs.length : Int)) then
            bif decide ((0 : Int) ≤ p3.snd) && decide (p3.snd < (↑x0.Signs.length : Int)) then
              (bif (x0.Signs.getD (Int.toNat p3.snd) z_Sign).Item == x1 then
                    bif decide ((x0.Signs.getD (Int.toNat p3.snd) z_Sign).At ≤ x2) then
                      some (decide (x2 < IntKind.i64.wrap ((x0.Signs.getD (Int.toNat p3.snd) z_Sign).At + x0.Every)))
                    else some false
                  else some false).bind
                fun (r4 : Bool) =>
                (bif r4 then
                      some (max p3.fst (IntKind.i64.wrap ((x0.Signs.getD (Int.toNat p3.snd) z_Sign).At + x0.Every)))
                    else some p3.fst).bind
                  fun (r5 : Int) => some (Sum.inl (r5, IntKind.i64.wrap (p3.snd + (1 : Int))))
            else none
          else some (Sum.inr p3.fst))
        (x2, (0 : Int))).bind
    fun (r6 : Int) => some r6
theorem d_r19_end (N : Nat) : DenF Tryz.prog 121 ⟨[.t_Checklist, .t_i64, .t_i64], [.t_i64], [[none]], r19_end N⟩ :=
  den_of (N := N) (gam := []) (txt := []) (hints := [(121, [([0, 1, 0, 1, 1], ⟨[1, 2, 3], [.reg 7 .t_i64 [none], .reg 8 .t_i64 [none]], [(.ex 0, [.reg 7 .t_i64 [none]])], []⟩), ([0, 1, 0, 0, 1, 0, 0, 1, 0, 1, 1], ⟨[1, 2, 3, 7, 8, 9], [], [(.nrm, [.reg 41 .t_bool [none]])], []⟩), ([1, 1, 0, 0, 1, 0, 0, 1, 0, 1, 1], ⟨[1, 2, 3, 8], [], [(.nrm, [.reg 7 .t_i64 [none]])], []⟩)])]) mixed .nil .nil Tryz.func121 (by kernel_rfl) (by kernel_rfl)

def r19_Open (N : Nat) (x0 : Checklist) (x1 : Int) : Option ((List Int)) :=
 
  (whileF N
        (fun (p2 : List Int × Int) =>
          bif decide (p2.snd < (↑x0.Items.length : Int)) then
            bif decide ((0 : Int) ≤ p2.snd) && decide (p2.snd < (↑x0.Items.length : Int)) then
              (r19_end N x0 (x0.Items.getD (Int.toNat p2.snd) (0 : Int)) x1).bind fun (r3 : Int) =>
                (bif r3 == x1 then
                      bif decide ((0 : Int) ≤ p2.snd) && decide (p2.snd < (↑x0.Items.length : Int)) then
                        (some [x0.Items.getD (Int.toNat p2.snd) (0 : Int)]).bind fun (r4 : List Int) =>
                          bif decide ((List.length p2.fst + r4.length) * 8 ≤ 140737488355328) then
                            (some (p2.fst ++ r4)).bind fun (r5 : List Int) => some r5
                          else none
                      else none
                    else some p2.fst).bind
                  fun (r6 : List Int) => some (Sum.inl (r6, IntKind.i64.wrap (p2.snd + (1 : Int))))
            else none
          else some (Sum.inr p2.fst))
        ([], (0 : Int))).bind
    fun (r7 : List Int) => some r7
theorem d_r19_Open (N : Nat) : DenF Tryz.prog 80 ⟨[.t_Checklist, .t_i64], [.l_i64], [[some 3]], r19_Open N⟩ :=
  den_of (N := N) (gam := [(121, ⟨[.t_Checklist, .t_i64, .t_i64], [.t_i64], [[none]], r19_end N⟩)]) (txt := []) (hints := [(80, [([0, 1, 0, 1, 1], ⟨[1, 2], [.reg 5 .l_i64 [some 3], .reg 6 .t_i64 [none]], [(.ex 0, [.reg 5 .l_i64 [some 3]])], []⟩), ([1, 0, 0, 1, 0, 0, 1, 0, 1, 1], ⟨[1, 2, 6], [], [(.nrm, [.reg 5 .l_i64 [some 3]])], []⟩)])]) mixed (.cons (d_r19_end N) .nil) .nil Tryz.func80 (by kernel_rfl) (by kernel_rfl)

def r19_Done (N : Nat) (x0 : Checklist) (x1 : Int) : Option Bool :=
 
  (r19_Open N x0 x1).bind fun (r2 : List Int) => some ((↑r2.length : Int) == (0 : Int))
theorem d_r19_Done (N : Nat) : DenF Tryz.prog 51 ⟨[.t_Checklist, .t_i64], [.t_bool], [[none]], r19_Done N⟩ :=
  den_of (N := N) (gam := [(80, ⟨[.t_Checklist, .t_i64], [.l_i64], [[some 3]], r19_Open N⟩)]) (txt := []) (hints := []) mixed (.cons (d_r19_Open N) .nil) .nil Tryz.func51 (by kernel_rfl) (by kernel_rfl)

def r20_May (N : Nat) (x0 : LiftState) : Option Int :=
 
  (r16_Faults N x0.Chain x0.Time).bind fun (r1 : List Int) =>
    bif decide ((↑r1.length : Int) > (0 : Int)) then some (13 : Int)
    else
      (r20_Load N x0).bind fun (r2 : Int) =>
        (r15_Enough N x0.Brakes r2 x0.Time).bind fun (r3 : Bool) =>
          bif !r3 then some (14 : Int)
          else
            (bif x0.Mode != (2 : Int) then (r19_Done N x0.Checks x0.Time).bind fun (r4 : Bool) => some !r4
                else some false).bind
              fun (r5 : Bool) =>
              bif r5 then some (11 : Int)
              else
                (bif x0.Mode != (2 : Int) then some x0.Wind.Active else some false).bind fun (r6 : Bool) =>
                  bif r6 then some (15 : Int) else some (0 : Int)
theorem d_r20_May (N : Nat) : DenF Tryz.prog 19 ⟨[.t_LiftState], [.t_i64], [[none]], r20_May N⟩ :=
  den_of (N := N) (gam := [(49, ⟨[.t_Chain, .t_i64], [.l_i64], [[some 3]], r16_Faults N⟩), (17, ⟨[.t_LiftState], [.t_i64], [[none]], r20_Load N⟩), (50, ⟨[.l_Brake, .t_i64, .t_i64], [.t_bool], [[none]], r15_Enough N⟩), (51, ⟨[.t_Checklist, .t_i64], [.t_bool], [[none]], r19_Done N⟩)]) (txt := []) (hints := [(19, [([0, 0, 1, 1, 1], ⟨[1], [], [(.nrm, [.reg 28 .t_bool [none]])], []⟩), ([0, 0, 1, 1, 1, 1], ⟨[], [], [(.nrm, [.reg 36 .t_bool [none]])], []⟩)])]) mixed (.cons (d_r16_Faults N) (.cons (d_r20_Load N) (.cons (d_r15_Enough N) (.cons (d_r19_Done N) .nil)))) .nil Tryz.func19 (by kernel_rfl) (by kernel_rfl)

def r20_Safe (N : Nat) (x0 : LiftState) : Option Bool :=
 
  (r20_Right N x0).bind fun (r1 : Bool) =>
    bif !r1 then some false
    else
      bif x0.Drive.State != (1 : Int) then some true
      else
        ((r20_May N x0).bind fun (r2 : Int) =>
              bif r2 == (0 : Int) then
                bif x0.Mode != (0 : Int) then
                  bif x0.Mode != (2 : Int) then some true else some (decide (x0.Drive.Target ≤ (1000 : Int)))
                else some false
              else some false).bind
          fun (r3 : Bool) => some r3
theorem d_r20_Safe (N : Nat) : DenF Tryz.prog 15 ⟨[.t_LiftState], [.t_bool], [[none]], r20_Safe N⟩ :=
  den_of (N := N) (gam := [(13, ⟨[.t_LiftState], [.t_bool], [[none]], r20_Right N⟩), (19, ⟨[.t_LiftState], [.t_i64], [[none]], r20_May N⟩)]) (txt := []) (hints := [(15, [([0, 1, 1, 1], ⟨[], [], [(.nrm, [.reg 2 .t_bool [none]])], []⟩)])]) mixed (.cons (d_r20_Right N) (.cons (d_r20_May N) .nil)) .nil Tryz.func15 (by kernel_rfl) (by kernel_rfl)

def r14_Halt (N : Nat) (x0 : Motor) (x1 : Drive) : Option Drive :=
 
  (bif x1.State == (1 : Int) then some (Drive.mk (2 : Int) x1.Speed (0 : Int) x1.Moved) else some x1).bind
    fun (r2 : Drive) => some r2
theorem d_r14_Halt (N : Nat) : DenF Tryz.prog 93 ⟨[.t_Motor, .t_Drive], [.t_Drive], [[none, none, none, none]], r14_Halt N⟩ :=
  den_of (N := N) (gam := []) (txt := []) (hints := [(93, [([1, 0, 1], ⟨[3, 4], [], [(.nrm, [.var 3 .t_Drive [none, none, none, none]])], []⟩)])]) mixed .nil .nil Tryz.func93 (by kernel_rfl) (by kernel_rfl)

def r20_mode (N : Nat) (x0 : LiftState) (x1 : LiftEvent) : Option (LiftState × Int) :=
 
  (bif x1.Kind == (2 : Int) then
        bif x0.Mode != (0 : Int) then some (Sum.inr ((10 : Int), x0, x0))
        else
          (r20_May N x0).bind fun (r2 : Int) =>
            bif r2 != (0 : Int) then some (Sum.inr (r2, x0, x0))
            else
              some
                (Sum.inl
                  (z_LiftState,
                    LiftState.mk x0.Lift x0.Motor x0.Drive x0.Brakes x0.Chain x0.Wind x0.Line x0.Queue x0.Checks x0.Time
                      (1 : Int) x0.Up x0.Off))
      else
        (bif x1.Kind == (3 : Int) then
              bif x0.Mode != (1 : Int) then some (Sum.inr ((10 : Int), x0, x0))
              else
                some
                  (Sum.inl
                    (z_LiftState,
                      LiftState.mk x0.Lift x0.Motor x0.Drive x0.Brakes x0.Chain x0.Wind x0.Line z_Queue x0.Checks
                        x0.Time (3 : Int) x0.Up x0.Off))
            else
              (bif x1.Kind == (17 : Int) then
                    (bif x0.Mode == (0 : Int) then some true else some (x0.Mode == (2 : Int))).bind fun (r3 : Bool) =>
                      bif r3 then some (Sum.inr ((10 : Int), x0, x0))
                      else
                        bif x0.Drive.Speed != (0 : Int) then some (Sum.inr ((13 : Int), x0, x0))
                        else
                          (bif x0.Drive.State == (1 : Int) then some (decide (x0.Drive.Target > (1000 : Int)))
                              else some false).bind
                            fun (r4 : Bool) =>
                            (bif r4 then
                                  (r14_Halt N x0.Motor x0.Drive).bind fun (r5 : Drive) =>
                                    some
                                      (LiftState.mk x0.Lift x0.Motor r5 x0.Brakes x0.Chain x0.Wind x0.Line x0.Queue
                                        x0.Checks x0.Time x0.Mode x0.Up x0.Off)
                                else some x0).bind
                              fun (r6 : LiftState) =>
                              some
                                (Sum.inl
                                  (z_LiftState,
                                    LiftState.mk r6.Lift r6.Motor r6.Drive r6.Brakes r6.Chain r6.Wind r6.Line z_Queue
                                      r6.Checks r6.Time (2 : Int) r6.Up r6.Off))
                  else
                    (bif x1.Kind == (19 : Int) then
                          bif x0.Mode != (2 : Int) then some (Sum.inr ((10 : Int), x0, x0))
                          else
                            (r17_People N x0.Line).bind fun (r7 : Int) =>
                              bif decide (r7 > (0 : Int)) then some (Sum.inr ((13 : Int), x0, x0))
                              else
                                some
                                  (Sum.inl
                                    (z_LiftState,
                                      LiftState.mk x0.Lift x0.Motor x0.Drive x0.Brakes x0.Chain x0.Wind x0.Line x0.Queue
                                        x0.Checks x0.Time (0 : Int) x0.Up x0.Off))
                        else some (Sum.inl (z_LiftState, x0))).bind
                      fun (r8 : LiftState × LiftState ⊕ Int × LiftState × LiftState) =>
                      Sum.elim (fun (p9 : LiftState × LiftState) => some (Sum.inl p9))
                        (fun (p10 : Int × LiftState × LiftState) => some (Sum.inr p10)) r8).bind
                fun (r11 : LiftState × LiftState ⊕ Int × LiftState × LiftState) =>
                Sum.elim (fun (p12 : LiftState × LiftState) => some (Sum.inl p12))
                  (fun (p13 : Int × LiftState × LiftState) => some (Sum.inr p13)) r11).bind
          fun (r14 : LiftState × LiftState ⊕ Int × LiftState × LiftState) =>
          Sum.elim (fun (p15 : LiftState × LiftState) => some (Sum.inl p15))
            (fun (p16 : Int × LiftState × LiftState) => some (Sum.inr p16)) r14).bind
    fun (r17 : LiftState × LiftState ⊕ Int × LiftState × LiftState) =>
    Sum.elim (fun (p18 : LiftState × LiftState) => some (p18.snd, (0 : Int)))
      (fun (p19 : Int × LiftState × LiftState) => some (p19.snd.fst, p19.fst)) r17
theorem d_r20_mode (N : Nat) : DenF Tryz.prog 55 ⟨[.t_LiftState, .t_LiftEvent], [.t_LiftState, .t_i64], [[none, none, none, none, none, none, none, none, none, none, none, none, none, none, none, none, none, none, none, none, none, none, none, none, none, none, none, none, none, none, none, none, none, none, none, none, none], [none]], r20_mode N⟩ :=
  den_of (N := N) (gam := [(19, ⟨[.t_LiftState], [.t_i64], [[none]], r20_May N⟩), (93, ⟨[.t_Motor, .t_Drive], [.t_Drive], [[none, none, none, none]], r14_Halt N⟩), (45, ⟨[.t_Line], [.t_i64], [[none]], r17_People N⟩)]) (txt := []) (hints := [(55, [([1, 0, 1, 0, 1], ⟨[2, 4], [], [(.nrm, [.var 4 .t_LiftState [none, none, none, none, none, none, none, none, none, none, none, none, none, none, none, none, none, none, none, none, none, none, none, none, none, none, none, none, none, none, none, none, none, none, none, none, none], .var 2 .t_LiftState [none, none, none, none, none, none, none, none, none, none, none, none, none, none, none, none, none, none, none, none, none, none, none, none, none, none, none, none, none, none, none, none, none, none, none, none, none]]), (.ret, [.reg 5 .t_i64 [none], .var 4 .t_LiftState [none, none, none, none, none, none, none, none, none, none, none, none, none, none, none, none, none, none, none, none, none, none, none, none, none, none, none, none, none, none, none, none, none, none, none, none, none], .var 2 .t_LiftState [none, none, none, none, none, none, none, none, none, none, none, none, none, none, none, none, none, none, none, none, none, none, none, none, none, none, none, none, none, none, none, none, none, none, none, none, none]])], []⟩), ([1, 1, 1, 0, 1, 0, 1], ⟨[2, 4], [], [(.nrm, [.var 4 .t_LiftState [none, none, none, none, none, none, none, none, none, none, none, none, none, none, none, none, none, none, none, none, none, none, none, none, none, none, none, none, none, none, none, none, none, none, none, none, none], .var 2 .t_LiftState [none, none, none, none, none, none, none, none, none, none, none, none, none, none, none, none, none, none, none, none, none, none, none, none, none, none, none, none, none, none, none, none, none, none, none, none, none]]), (.ret, [.reg 5 .t_i64 [none], .var 4 .t_LiftState [none, none, none, none, none, none, none, none, none, none, none, none, none, none, none, none, none, none, none, none, none, none, none, none, none, none, none, none, none, none, none, none, none, none, none, none, none], .var 2 .t_LiftState [none, none, none, none, none, none, none, none, none, none, none, none, none, none, none, none, none, none, none, none, none, none, none, none, none, none, none, none, none, none, none, none, none, none, none, none, none]])], []⟩), ([1, 1, 1, 1, 1, 0, 1, 0, 1], ⟨[2, 4], [], [(.nrm, [.var 4 .t_LiftState [none, none, none, none, none, none, none, none, none, none, none, none, none, none, none, none, none, none, none, none, none, none, none, none, none, none, none, none, none, none, none, none, none, none, none, none, none], .var 2 .t_LiftState [none, none, none, none, none, none, none, none, none, none, none, none, none, none, none, none, none, none, none, none, none, none, none, none, none, none, none, none, none, none, none, none, none, none, none, none, none]]), (.ret, [.reg 5 .t_i64 [none], .var 4 .t_LiftState [none, none, none, none, none, none, none, none, none, none, none, none, none, none, none, none, none, none, none, none, none, none, none, none, none, none, none, none, none, none, none, none, none, none, none, none, none], .var 2 .t_LiftState [none, none, none, none, none, none, none, none, none, none, none, none, none, none, none, none, none, none, none, none, none, none, none, none, none, none, none, none, none, none, none, none, none, none, none, none, none]])], []⟩), ([0, 0, 0, 1, 1, 1, 1, 1, 0, 1, 0, 1], ⟨[2, 4], [], [(.nrm, [.reg 40 .t_bool [none]])], []⟩), ([0, 0, 1, 1, 0, 1, 1, 1, 1, 1, 0, 1, 0, 1], ⟨[2, 4], [], [(.nrm, [.reg 56 .t_bool [none]])], []⟩), ([1, 0, 1, 1, 0, 1, 1, 1, 1, 1, 0, 1, 0, 1], ⟨[2, 4], [], [(.nrm, [.var 2 .t_LiftState [none, none, none, none, none, none, none, none, none, none, none, none, none, none, none, none, none, none, none, none, none, none, none, none, none, none, none, none, none, none, none, none, none, none, none, none, none]])], []⟩), ([1, 1, 1, 1, 1, 1, 1, 0, 1, 0, 1], ⟨[2, 4], [], [(.nrm, [.var 4 .t_LiftState [none, none, none, none, none, none, none, none, none, none, none, none, none, none, none, none, none, none, none, none, none, none, none, none, none, none, none, none, none, none, none, none, none, none, none, none, none], .var 2 .t_LiftState [none, none, none, none, none, none, none, none, none, none, none, none, none, none, none, none, none, none, none, none, none, none, none, none, none, none, none, none, none, none, none, none, none, none, none, none, none]]), (.ret, [.reg 5 .t_i64 [none], .var 4 .t_LiftState [none, none, none, none, none, none, none, none, none, none, none, none, none, none, none, none, none, none, none, none, none, none, none, none, none, none, none, none, none, none, none, none, none, none, none, none, none], .var 2 .t_LiftState [none, none, none, none, none, none, none, none, none, none, none, none, none, none, none, none, none, none, none, none, none, none, none, none, none, none, none, none, none, none, none, none, none, none, none, none, none]])], []⟩)])]) mixed (.cons (d_r20_May N) (.cons (d_r14_Halt N) (.cons (d_r17_People N) .nil))) .nil Tryz.func55 (by kernel_rfl) (by kernel_rfl)

def r16_Expire (N : Nat) (x0 : Chain) (x1 : Int) : Option Chain :=
 
  (whileF N
        (fun (p2 : Int × Chain) =>
          bif decide (p2.fst < (↑x0.Contacts.length : Int)) then
            bif decide ((0 : Int) ≤ p2.fst) && decide (p2.fst < (↑x0.Contacts.length : Int)) then
              (bif decide ((x0.Contacts.getD (Int.toNat p2.fst) z_Contact).Until ≤ x1) then
                    some
                      (Contact.mk (x0.Contacts.getD (Int.toNat p2.fst) z_Contact).ID
                        (x0.Contacts.getD (Int.toNat p2.fst) z_Contact).Critical
                        (x0.Contacts.getD (Int.toNat p2.fst) z_Contact).Closed
                        (x0.Contacts.getD (Int.toNat p2.fst) z_Contact).Latched (0 : Int))
                  else some (x0.Contacts.getD (Int.toNat p2.fst) z_Contact)).bind
                fun (r3 : Contact) =>
                (some [r3]).bind fun (r4 : List Contact) =>
                  bif decide ((p2.snd.Contacts.length + r4.length) * 24 ≤ 140737488355328) then
                    (some (p2.snd.Contacts ++ r4)).bind fun (r5 : List Contact) =>
                      some (Sum.inl (IntKind.i64.wrap (p2.fst + (1 : Int)), Chain.mk r5 p2.snd.Key))
                  else none
            else none
          else some (Sum.inr p2.snd))
        ((0 : Int), Chain.mk [] x0.Key)).bind
    fun (r6 : Chain) => some r6
theorem d_r16_Expire (N : Nat) : DenF Tryz.prog 108 ⟨[.t_Chain, .t_i64], [.t_Chain], [[some 92, none]], r16_Expire N⟩ :=
  den_of (N := N) (gam := []) (txt := []) (hints := [(108, [([0, 1, 0, 1, 1], ⟨[1, 2, 4, 5], [.reg 6 .t_i64 [none], .var 5 .t_Chain [some 92, none]], [(.ex 0, [.var 5 .t_Chain [some 92, none]])], []⟩), ([1, 0, 1, 0, 0, 1, 0, 0, 1, 0, 1, 1], ⟨[1, 2, 4, 5, 6, 7], [], [(.nrm, [.var 7 .t_Contact [none, none, none, none, none]])], []⟩)])]) mixed .nil .nil Tryz.func108 (by kernel_rfl) (by kernel_rfl)

def r14_Emergency (N : Nat) (x0 : Motor) (x1 : Drive) : Option Drive :=
  some (Drive.mk (3 : Int) x1.Speed (0 : Int) x1.Moved)
theorem d_r14_Emergency (N : Nat) : DenF Tryz.prog 96 ⟨[.t_Motor, .t_Drive], [.t_Drive], [[none, none, none, none]], r14_Emergency N⟩ :=
  den_of (N := N) (gam := []) (txt := []) (hints := []) mixed .nil .nil Tryz.func96 (by kernel_rfl) (by kernel_rfl)

def r20_guard (N : Nat) (x0 : LiftState) : Option LiftState :=
 
  (r16_Expire N x0.Chain x0.Time).bind fun (r1 : Chain) =>
    (bif x0.Mode == (3 : Int) then (r17_People N x0.Line).bind fun (r2 : Int) => some (r2 == (0 : Int))
        else some false).bind
      fun (r3 : Bool) =>
      (bif r3 then
            some
              (LiftState.mk x0.Lift x0.Motor x0.Drive x0.Brakes r1 x0.Wind x0.Line x0.Queue x0.Checks x0.Time (0 : Int)
                x0.Up x0.Off)
          else
            some
              (LiftState.mk x0.Lift x0.Motor x0.Drive x0.Brakes r1 x0.Wind x0.Line x0.Queue x0.Checks x0.Time x0.Mode
                x0.Up x0.Off)).bind
        fun (r4 : LiftState) =>
        bif r4.Drive.State != (1 : Int) then some r4
        else
          (r20_May N r4).bind fun (r5 : Int) =>
            (bif r4.Mode != (0 : Int) then bif r5 == (13 : Int) then some true else some (r5 == (14 : Int))
                else some false).bind
              fun (r6 : Bool) =>
              (bif r6 then
                    (r14_Emergency N r4.Motor r4.Drive).bind fun (r7 : Drive) =>
                      some
                        (LiftState.mk r4.Lift r4.Motor r7 r4.Brakes r4.Chain r4.Wind r4.Line r4.Queue r4.Checks r4.Time
                          r4.Mode r4.Up r4.Off)
                  else
                    (bif r4.Mode == (0 : Int) then some true else some (r5 != (0 : Int))).bind fun (r8 : Bool) =>
                      (bif r8 then
                            (r14_Halt N r4.Motor r4.Drive).bind fun (r9 : Drive) =>
                              some
                                (LiftState.mk r4.Lift r4.Motor r9 r4.Brakes r4.Chain r4.Wind r4.Line r4.Queue r4.Checks
                                  r4.Time r4.Mode r4.Up r4.Off)
                          else some r4).bind
                        fun (r10 : LiftState) => some r10).bind
                fun (r11 : LiftState) => some r11
theorem d_r20_guard (N : Nat) : DenF Tryz.prog 59 ⟨[.t_LiftState], [.t_LiftState], [[none, none, none, none, none, none, none, none, none, none, none, none, none, none, none, none, none, none, none, none, none, none, none, none, none, none, none, none, none, none, none, none, none, none, none, none, none]], r20_guard N⟩ :=
  den_of (N := N) (gam := [(108, ⟨[.t_Chain, .t_i64], [.t_Chain], [[some 92, none]], r16_Expire N⟩), (45, ⟨[.t_Line], [.t_i64], [[none]], r17_People N⟩), (19, ⟨[.t_LiftState], [.t_i64], [[none]], r20_May N⟩), (96, ⟨[.t_Motor, .t_Drive], [.t_Drive], [[none, none, none, none]], r14_Emergency N⟩), (93, ⟨[.t_Motor, .t_Drive], [.t_Drive], [[none, none, none, none]], r14_Halt N⟩)]) (txt := []) (hints := [(59, [([0, 0, 1, 1], ⟨[1, 2], [], [(.nrm, [.reg 18 .t_bool [none]])], []⟩), ([1, 0, 1, 1], ⟨[1, 2], [], [(.nrm, [.var 1 .t_LiftState [none, none, none, none, none, none, none, none, none, none, none, none, none, none, none, none, none, none, none, none, none, none, none, none, none, none, none, none, none, none, none, none, none, none, none, none, none]])], []⟩), ([0, 0, 1, 1, 1, 1, 1], ⟨[1, 2, 3], [], [(.nrm, [.reg 37 .t_bool [none]])], []⟩), ([1, 0, 1, 1, 1, 1, 1], ⟨[1, 2], [], [(.nrm, [.var 1 .t_LiftState [none, none, none, none, none, none, none, none, none, none, none, none, none, none, none, none, none, none, none, none, none, none, none, none, none, none, none, none, none, none, none, none, none, none, none, none, none]])], []⟩), ([0, 1, 1, 0, 1, 1, 1, 1, 1], ⟨[1, 2], [], [(.nrm, [.reg 50 .t_bool [none]])], []⟩), ([1, 1, 1, 0, 1, 1, 1, 1, 1], ⟨[1, 2], [], [(.nrm, [.var 1 .t_LiftState [none, none, none, none, none, none, none, none, none, none, none, none, none, none, none, none, none, none, none, none, none, none, none, none, none, none, none, none, none, none, none, none, none, none, none, none, none]])], []⟩)])]) mixed (.cons (d_r16_Expire N) (.cons (d_r17_People N) (.cons (d_r20_May N) (.cons (d_r14_Emergency N) (.cons (d_r14_Halt N) .nil))))) .nil Tryz.func59 (by kernel_rfl) (by kernel_rfl)

def r14_speed (N : Nat) (x0 : Motor) (x1 : Drive) : Option Int :=
 
  (bif x1.State == (1 : Int) then some (decide (x1.Speed < x1.Target)) else some false).bind fun (r2 : Bool) =>
    bif r2 then some (min (IntKind.i64.wrap (x1.Speed + x0.Up)) x1.Target)
    else
      bif x1.State == (1 : Int) then some (max (IntKind.i64.wrap (x1.Speed - x0.Down)) x1.Target)
      else
        bif x1.State == (2 : Int) then some (max (IntKind.i64.wrap (x1.Speed - x0.Down)) (0 : Int))
        else
          bif x1.State == (3 : Int) then some (max (IntKind.i64.wrap (x1.Speed - x0.Stop)) (0 : Int)) else some x1.Speed
theorem d_r14_speed (N : Nat) : DenF Tryz.prog 160 ⟨[.t_Motor, .t_Drive], [.t_i64], [[none]], r14_speed N⟩ :=
  den_of (N := N) (gam := []) (txt := []) (hints := [(160, [([0, 0, 1], ⟨[2, 3], [], [(.nrm, [.reg 14 .t_bool [none]])], []⟩)])]) mixed .nil .nil Tryz.func160 (by kernel_rfl) (by kernel_rfl)
end Go.Proofs.YthjmbcnohgaihaaGreat
