/- Written by a program (gen.py, asm.py): what each function computes, as a plain function, and that its text computes it. No condition. -/
import Derived.Test.YthjmbcnohgaihaaGreatFn3
import Derived.Test.YthjmbcnohgaihaaGreatCmo
namespace Go.Proofs.YthjmbcnohgaihaaGreat
open Go.Cm Go.Proofs
set_option linter.unusedVariables false
set_option maxRecDepth 100000

def chain_Faults (N : Nat) (x0 : Chain) (x1 : Int) : Option ((List Int)) :=
 
  (whileF N
        (fun (p2 : List Int × Int) =>
          bif decide (p2.snd < (↑x0.Contacts.length : Int)) then
            bif decide ((0 : Int) ≤ p2.snd) && decide (p2.snd < (↑x0.Contacts.length : Int)) then
              (bif (x0.Contacts.getD (Int.toNat p2.snd) z_Contact).Latched then
                    some (decide (x1 ≥ (x0.Contacts.getD (Int.toNat p2.snd) z_Contact).Until))
                  else
                    bif !(x0.Contacts.getD (Int.toNat p2.snd) z_Contact).Closed then
                      some (decide (x1 ≥ (x0.Contacts.getD (Int.toNat p2.snd) z_Contact).Until))
                    else some false).bind
                fun (r3 : Bool) =>
                (bif r3 then
                      (some [(x0.Contacts.getD (Int.toNat p2.snd) z_Contact).ID]).bind fun (r4 : List Int) =>
                        bif decide ((List.length p2.fst + r4.length) * 8 ≤ 140737488355328) then
                          (some (p2.fst ++ r4)).bind fun (r5 : List Int) => some r5
                        else none
                    else some p2.fst).bind
                  fun (r6 : List Int) => some (Sum.inl (r6, IntKind.i64.wrap (p2.snd + (1 : Int))))
            else none
          else some (Sum.inr p2.fst))
        ([], (0 : Int))).bind
    fun (r7 : List Int) => some r7
theorem d_chain_Faults (N : Nat) : DenF Tryz.prog 46 ⟨[.t_Chain, .t_i64], [.l_i64], [[some 3]], chain_Faults N⟩ :=
  den_of (N := N) (gam := []) (txt := []) (hints := [(46, [([0, 1, 0, 1, 1], ⟨[1, 2, 10], [.reg 5 .l_i64 [some 3], .reg 11 .t_i64 [none]], [(.ex 0, [.reg 5 .l_i64 [some 3]])], []⟩), ([0, 1, 1, 0, 0, 1, 1, 0, 0, 1, 0, 1, 1], ⟨[1, 2, 5, 7, 10, 11], [], [(.nrm, [.reg 31 .t_bool [none]])], []⟩), ([1, 1, 1, 0, 0, 1, 1, 0, 0, 1, 0, 1, 1], ⟨[1, 2, 10, 11], [], [(.nrm, [.reg 5 .l_i64 [some 3]])], []⟩)])]) mixed .nil .nil Tryz.func46 (by kernel_rfl) (by kernel_rfl)

def brake_nineTenths (N : Nat) (x0 : Int) : Option Int :=
 
  (bif decide (x0.tmod (10 : Int) < (0 : Int)) then
        some
          (IntKind.i64.wrap (IntKind.i64.wrap (x0.tdiv (10 : Int)) - (1 : Int)),
            IntKind.i64.wrap (x0.tmod (10 : Int) + (10 : Int)))
      else some (IntKind.i64.wrap (x0.tdiv (10 : Int)), x0.tmod (10 : Int))).bind
    fun (r1 : Int × Int) =>
    some
      (IntKind.i64.wrap
        (IntKind.i64.wrap ((9 : Int) * r1.fst) +
          IntKind.i64.wrap ((IntKind.i64.wrap (IntKind.i64.wrap ((9 : Int) * r1.snd) + (9 : Int))).tdiv (10 : Int))))
theorem d_brake_nineTenths (N : Nat) : DenF Tryz.prog 145 ⟨[.t_i64], [.t_i64], [[none]], brake_nineTenths N⟩ :=
  den_of (N := N) (gam := []) (txt := []) (hints := [(145, [([1, 0, 1, 1], ⟨[], [], [(.nrm, [.reg 3 .t_i64 [none], .reg 4 .t_i64 [none]])], []⟩)])]) mixed .nil .nil Tryz.func145 (by kernel_rfl) (by kernel_rfl)

def brake_Valid (N : Nat) (x0 : Brake) (x1 : Int) : Option Bool :=
 
  (bif decide (x0.Tested ≥ (0 : Int)) then
        bif decide (x1 ≥ x0.Tested) then
          bif decide (IntKind.i64.wrap (x1 - x0.Tested) < (604800 : Int)) then
            (brake_nineTenths N x0.Force).bind fun (r2 : Int) => some (decide (x0.Measured ≥ r2))
          else some false
        else some false
      else some false).bind
    fun (r3 : Bool) => some r3
theorem d_brake_Valid (N : Nat) : DenF Tryz.prog 117 ⟨[.t_Brake, .t_i64], [.t_bool], [[none]], brake_Valid N⟩ :=
  den_of (N := N) (gam := [(145, ⟨[.t_i64], [.t_i64], [[none]], brake_nineTenths N⟩)]) (txt := []) (hints := [(117, [([0, 1], ⟨[], [], [(.nrm, [.reg 4 .t_bool [none]])], []⟩)])]) mixed (.cons (d_brake_nineTenths N) .nil) .nil Tryz.func117 (by kernel_rfl) (by kernel_rfl)

def brake_Force (N : Nat) (x0 : List Brake) (x1 x2 : Int) : Option Int :=
 
  (whileF N
        (fun (p3 : Int × Int) =>
          bif decide (p3.snd < (↑x0.length : Int)) then
            bif decide ((0 : Int) ≤ p3.snd) && decide (p3.snd < (↑x0.length : Int)) then
              (bif (x0.getD (Int.toNat p3.snd) z_Brake).Kind == x1 then
                    (brake_Valid N (x0.getD (Int.toNat p3.snd) z_Brake) x2).bind fun (r4 : Bool) => some r4
                  else some false).bind
                fun (r5 : Bool) =>
                (bif r5 then some (IntKind.i64.wrap (p3.fst + (x0.getD (Int.toNat p3.snd) z_Brake).Measured))
                    else some p3.fst).bind
                  fun (r6 : Int) => some (Sum.inl (r6, IntKind.i64.wrap (p3.snd + (1 : Int))))
            else none
          else some (Sum.inr p3.fst))
        ((0 : Int), (0 : Int))).bind
    fun (r7 : Int) => some r7
theorem d_brake_Force (N : Nat) : DenF Tryz.prog 77 ⟨[.l_Brake, .t_i64, .t_i64], [.t_i64], [[none]], brake_Force N⟩ :=
  den_of (N := N) (gam := [(117, ⟨[.t_Brake, .t_i64], [.t_bool], [[none]], brake_Valid N⟩)]) (txt := []) (hints := [(77, [([0, 1, 0, 1, 1], ⟨[1, 2, 10, 11], [.reg 7 .t_i64 [none], .reg 12 .t_i64 [none]], [(.ex 0, [.reg 7 .t_i64 [none]])], []⟩), ([0, 1, 0, 0, 1, 1, 0, 0, 1, 0, 1, 1], ⟨[1, 2, 7, 9, 10, 11, 12], [], [(.nrm, [.reg 24 .t_bool [none]])], []⟩), ([1, 1, 0, 0, 1, 1, 0, 0, 1, 0, 1, 1], ⟨[1, 2, 10, 11, 12], [], [(.nrm, [.reg 7 .t_i64 [none]])], []⟩)])]) mixed (.cons (d_brake_Valid N) .nil) .nil Tryz.func77 (by kernel_rfl) (by kernel_rfl)

def brake_Enough (N : Nat) (x0 : List Brake) (x1 x2 : Int) : Option Bool :=
 
  ((brake_Force N x0 (0 : Int) x2).bind fun (r3 : Int) =>
        bif decide (r3 ≥ x1) then (brake_Force N x0 (1 : Int) x2).bind fun (r4 : Int) => some (decide (r4 ≥ x1))
        else some false).bind
    fun (r5 : Bool) => some r5
theorem d_brake_Enough (N : Nat) : DenF Tryz.prog 47 ⟨[.l_Brake, .t_i64, .t_i64], [.t_bool], [[none]], brake_Enough N⟩ :=
  den_of (N := N) (gam := [(77, ⟨[.l_Brake, .t_i64, .t_i64], [.t_i64], [[none]], brake_Force N⟩)]) (txt := []) (hints := [(47, [([0, 1], ⟨[], [], [(.nrm, [.reg 6 .t_bool [none]])], []⟩)])]) mixed (.cons (d_brake_Force N) .nil) .nil Tryz.func47 (by kernel_rfl) (by kernel_rfl)

def inspect_Open (N : Nat) (x0 : Checklist) (x1 : Int) : Option ((List Int)) :=
 
  (whileF N
        (fun (p2 : List Int × Int) =>
          bif decide (p2.snd < (↑x0.Items.length : Int)) then
            bif decide ((0 : Int) ≤ p2.snd) && decide (p2.snd < (↑x0.Items.length : Int)) then
              (whileF N
                    (fun (p3 : Int) =>
                      bif decide (p3 < (↑x0.Signs.length : Int)) then
                        bif decide ((0 : Int) ≤ p3) && decide (p3 < (↑x0.Signs.length : Int)) then
                          (bif (x0.Signs.getD p3.toNat z_Sign).Item == x0.Items.getD (Int.toNat p2.snd) (0 : Int) then
                                bif decide ((x0.Signs.getD p3.toNat z_Sign).At ≤ x1) then
                                  some (decide (x1 < IntKind.i64.wrap ((x0.Signs.getD p3.toNat z_Sign).At + x0.Every)))
                                else some false
                              else some false).bind
                            fun (r4 : Bool) =>
                            bif r4 then some (Sum.inr (Sum.inr p3))
                            else some (Sum.inl (IntKind.i64.wrap (p3 + (1 : Int))))
                        else none
                      else some (Sum.inr (Sum.inl ())))
                    (0 : Int)).bind
                fun (r5 : Unit ⊕ Int) =>
                Sum.elim
                  (fun (p6 : Unit) =>
                    ((some [x0.Items.getD (Int.toNat p2.snd) (0 : Int)]).bind fun (r7 : List Int) =>
                          bif decide ((List.length p2.fst + r7.length) * 8 ≤ 140737488355328) then
                            (some (p2.fst ++ r7)).bind fun (r8 : List Int) => some r8
                          else none).bind
                      fun (r9 : List Int) => some (Sum.inl (r9, IntKind.i64.wrap (p2.snd + (1 : Int)))))
                  (fun (p10 : Int) =>
                    (bif !decide (p10 ≥ (0 : Int)) then
                          (some [x0.Items.getD (Int.toNat p2.snd) (0 : Int)]).bind fun (r11 : List Int) =>
                            bif decide ((List.length p2.fst + r11.length) * 8 ≤ 140737488355328) then
                              (some (p2.fst ++ r11)).bind fun (r12 : List Int) => some r12
                            else none
                        else some p2.fst).bind
                      fun (r13 : List Int) => some (Sum.inl (r13, IntKind.i64.wrap (p2.snd + (1 : Int)))))
                  r5
            else none
          else some (Sum.inr p2.fst))
        ([], (0 : Int))).bind
    fun (r14 : List Int) => some r14
theorem d_inspect_Open (N : Nat) : DenF Tryz.prog 78 ⟨[.t_Checklist, .t_i64], [.l_i64], [[some 3]], inspect_Open N⟩ :=
  den_of (N := N) (gam := []) (txt := [(118, Tryz.f118), (119, Tryz.f119), (146, Tryz.f146)]) (hints := [(78, [([0, 1, 0, 1, 1], ⟨[2, 3, 10, 11], [.reg 5 .l_i64 [some 3], .reg 12 .t_i64 [none]], [(.ex 0, [.reg 5 .l_i64 [some 3]])], []⟩), ([1, 1, 1, 0, 0, 1, 1, 0, 0, 1, 0, 1, 1], ⟨[2, 3, 10, 11, 12], [], [(.nrm, [.reg 5 .l_i64 [some 3]])], []⟩)]), (118, [([0, 1], ⟨[], [], [(.nrm, [.reg 5 .t_bool [none]])], []⟩)]), (146, [([0, 1, 0, 1], ⟨[0, 1, 7], [.reg 8 .t_i64 [none]], [(.ex 0, []), (.ret, [.reg 4 .t_i64 [none]])], []⟩)])]) mixed .nil (.cons Tryz.func118 (.cons Tryz.func119 (.cons Tryz.func146 .nil))) Tryz.func78 (by kernel_rfl) (by kernel_rfl)

def inspect_Done (N : Nat) (x0 : Checklist) (x1 : Int) : Option Bool :=
 
  (inspect_Open N x0 x1).bind fun (r2 : List Int) => some ((↑r2.length : Int) == (0 : Int))
theorem d_inspect_Done (N : Nat) : DenF Tryz.prog 48 ⟨[.t_Checklist, .t_i64], [.t_bool], [[none]], inspect_Done N⟩ :=
  den_of (N := N) (gam := [(78, ⟨[.t_Checklist, .t_i64], [.l_i64], [[some 3]], inspect_Open N⟩)]) (txt := []) (hints := []) mixed (.cons (d_inspect_Open N) .nil) .nil Tryz.func48 (by kernel_rfl) (by kernel_rfl)

def lift_May (N : Nat) (x0 : LiftState) : Option Int :=
 
  (chain_Faults N x0.Chain x0.Time).bind fun (r1 : List Int) =>
    bif decide ((↑r1.length : Int) > (0 : Int)) then some (13 : Int)
    else
      (lift_Load N x0).bind fun (r2 : Int) =>
        (brake_Enough N x0.Brakes r2 x0.Time).bind fun (r3 : Bool) =>
          bif !r3 then some (14 : Int)
          else
            bif x0.Mode == (2 : Int) then some (0 : Int)
            else
              (inspect_Done N x0.Checks x0.Time).bind fun (r4 : Bool) =>
                bif !r4 then some (11 : Int) else bif x0.Wind.Active then some (15 : Int) else some (0 : Int)
theorem d_lift_May (N : Nat) : DenF Tryz.prog 18 ⟨[.t_LiftState], [.t_i64], [[none]], lift_May N⟩ :=
  den_of (N := N) (gam := [(46, ⟨[.t_Chain, .t_i64], [.l_i64], [[some 3]], chain_Faults N⟩), (16, ⟨[.t_LiftState], [.t_i64], [[none]], lift_Load N⟩), (47, ⟨[.l_Brake, .t_i64, .t_i64], [.t_bool], [[none]], brake_Enough N⟩), (48, ⟨[.t_Checklist, .t_i64], [.t_bool], [[none]], inspect_Done N⟩)]) (txt := []) (hints := []) mixed (.cons (d_chain_Faults N) (.cons (d_lift_Load N) (.cons (d_brake_Enough N) (.cons (d_inspect_Done N) .nil)))) .nil Tryz.func18 (by kernel_rfl) (by kernel_rfl)

def drive_Emergency (N : Nat) (x0 : Motor) (x1 : Drive) : Option Drive :=
  some (Drive.mk (3 : Int) x1.Speed (0 : Int) x1.Moved)
theorem d_drive_Emergency (N : Nat) : DenF Tryz.prog 92 ⟨[.t_Motor, .t_Drive], [.t_Drive], [[none, none, none, none]], drive_Emergency N⟩ :=
  den_of (N := N) (gam := []) (txt := []) (hints := []) mixed .nil .nil Tryz.func92 (by kernel_rfl) (by kernel_rfl)

def rope_Take (N : Nat) (x0 : Line) (x1 x2 : Int) : Option (Line × Int) :=
 
  (rope_exists N x0 x1).bind fun (r3 : Bool) =>
    bif !r3 then some (z_Line, (8 : Int))
    else
      (bif decide (x2 < (0 : Int)) then some true
          else
            bif decide ((0 : Int) ≤ x1) && decide (x1 < (↑x0.Load.length : Int)) then
              some (decide (x2 > x0.Load.getD x1.toNat (0 : Int)))
            else none).bind
        fun (r4 : Bool) =>
        bif r4 then some (z_Line, (2 : Int))
        else
          (sl_Clone_int N x0.Load).bind fun (r5 : List Int) =>
            bif decide ((0 : Int) ≤ x1) && decide (x1 < (↑r5.length : Int)) then
              bif decide ((0 : Int) ≤ x1) && decide (x1 < (↑r5.length : Int)) then
                (some (r5.set x1.toNat (IntKind.i64.wrap (r5.getD x1.toNat (0 : Int) - x2)))).bind
                  fun (r6 : List Int) => some (Line.mk x0.Loop x0.Spacing x0.Offset r6, (0 : Int))
              else none
            else none
theorem d_rope_Take (N : Nat) : DenF Tryz.prog 151 ⟨[.t_Line, .t_i64, .t_i64], [.t_Line, .t_i64], [[none, none, none, some 3], [none]], rope_Take N⟩ :=
  den_of (N := N) (gam := [(159, ⟨[.t_Line, .t_i64], [.t_bool], [[none]], rope_exists N⟩), (83, ⟨[.l_i64], [.l_i64], [[some 3]], sl_Clone_int N⟩)]) (txt := []) (hints := [(151, [([0, 0, 1, 1], ⟨[1, 2, 3, 6], [], [(.nrm, [.reg 23 .t_bool [none]])], []⟩)])]) mixed (.cons (d_rope_exists N) (.cons (d_sl_Clone_int N) .nil)) .nil Tryz.func151 (by kernel_rfl) (by kernel_rfl)

def drive_Start (N : Nat) (x0 : Motor) (x1 : Drive) (x2 : Int) : Option (Drive × Int) :=
 
  (bif x1.State == (2 : Int) then some true else some (x1.State == (3 : Int))).bind fun (r3 : Bool) =>
    bif r3 then some (z_Drive, (10 : Int))
    else
      (drive_within N x2 (1 : Int) x0.Max).bind fun (r4 : Bool) =>
        bif !r4 then some (z_Drive, (2 : Int)) else some (Drive.mk (1 : Int) x1.Speed x2 x1.Moved, (0 : Int))
theorem d_drive_Start (N : Nat) : DenF Tryz.prog 127 ⟨[.t_Motor, .t_Drive, .t_i64], [.t_Drive, .t_i64], [[none, none, none, none], [none]], drive_Start N⟩ :=
  den_of (N := N) (gam := [(70, ⟨[.t_i64, .t_i64, .t_i64], [.t_bool], [[none]], drive_within N⟩)]) (txt := []) (hints := [(127, [([0, 0, 1], ⟨[2, 3, 4, 6], [], [(.nrm, [.reg 15 .t_bool [none]])], []⟩)])]) mixed (.cons (d_drive_within N) .nil) .nil Tryz.func127 (by kernel_rfl) (by kernel_rfl)

def drive_Reset (N : Nat) (x0 : Motor) (x1 : Drive) : Option (Drive × Int) :=
 
  (bif x1.State != (3 : Int) then some true else some (x1.Speed != (0 : Int))).bind fun (r2 : Bool) =>
    bif r2 then some (z_Drive, (10 : Int)) else some (Drive.mk (0 : Int) x1.Speed x1.Target x1.Moved, (0 : Int))
theorem d_drive_Reset (N : Nat) : DenF Tryz.prog 128 ⟨[.t_Motor, .t_Drive], [.t_Drive, .t_i64], [[none, none, none, none], [none]], drive_Reset N⟩ :=
  den_of (N := N) (gam := []) (txt := []) (hints := [(128, [([0, 0, 1], ⟨[3, 4], [], [(.nrm, [.reg 13 .t_bool [none]])], []⟩)])]) mixed .nil .nil Tryz.func128 (by kernel_rfl) (by kernel_rfl)

def chain_Break (N : Nat) (x0 : Chain) (x1 : Int) : Option (Chain × Int) :=
 
  (chain_find N x0 x1).bind fun (r2 : Int) =>
    bif decide (r2 < (0 : Int)) then some (z_Chain, (8 : Int))
    else
      (chain_clone N x0).bind fun (r3 : Chain) =>
        bif decide ((0 : Int) ≤ r2) && decide (r2 < (↑r3.Contacts.length : Int)) then
          (some
                (r3.Contacts.set r2.toNat
                  (Contact.mk (r3.Contacts.getD r2.toNat z_Contact).ID (r3.Contacts.getD r2.toNat z_Contact).Critical
                    false (r3.Contacts.getD r2.toNat z_Contact).Latched
                    (r3.Contacts.getD r2.toNat z_Contact).Until))).bind
            fun (r4 : List Contact) =>
            bif decide ((0 : Int) ≤ r2) && decide (r2 < (↑r4.length : Int)) then
              (some
                    (r4.set r2.toNat
                      (Contact.mk (r4.getD r2.toNat z_Contact).ID (r4.getD r2.toNat z_Contact).Critical
                        (r4.getD r2.toNat z_Contact).Closed true (r4.getD r2.toNat z_Contact).Until))).bind
                fun (r5 : List Contact) => some (Chain.mk r5 r3.Key, (0 : Int))
            else none
        else none
theorem d_chain_Break (N : Nat) : DenF Tryz.prog 129 ⟨[.t_Chain, .t_i64], [.t_Chain, .t_i64], [[some 92, none], [none]], chain_Break N⟩ :=
  den_of (N := N) (gam := [(113, ⟨[.t_Chain, .t_i64], [.t_i64], [[none]], chain_find N⟩), (138, ⟨[.t_Chain], [.t_Chain], [[some 92, none]], chain_clone N⟩)]) (txt := []) (hints := []) mixed (.cons (d_chain_find N) (.cons (d_chain_clone N) .nil)) .nil Tryz.func129 (by kernel_rfl) (by kernel_rfl)

def chain_Make (N : Nat) (x0 : Chain) (x1 : Int) : Option (Chain × Int) :=
 
  (chain_find N x0 x1).bind fun (r2 : Int) =>
    bif decide (r2 < (0 : Int)) then some (z_Chain, (8 : Int))
    else
      (chain_clone N x0).bind fun (r3 : Chain) =>
        bif decide ((0 : Int) ≤ r2) && decide (r2 < (↑r3.Contacts.length : Int)) then
          (some
                (r3.Contacts.set r2.toNat
                  (Contact.mk (r3.Contacts.getD r2.toNat z_Contact).ID (r3.Contacts.getD r2.toNat z_Contact).Critical
                    true (r3.Contacts.getD r2.toNat z_Contact).Latched
                    (r3.Contacts.getD r2.toNat z_Contact).Until))).bind
            fun (r4 : List Contact) => some (Chain.mk r4 r3.Key, (0 : Int))
        else none
theorem d_chain_Make (N : Nat) : DenF Tryz.prog 130 ⟨[.t_Chain, .t_i64], [.t_Chain, .t_i64], [[some 92, none], [none]], chain_Make N⟩ :=
  den_of (N := N) (gam := [(113, ⟨[.t_Chain, .t_i64], [.t_i64], [[none]], chain_find N⟩), (138, ⟨[.t_Chain], [.t_Chain], [[some 92, none]], chain_clone N⟩)]) (txt := []) (hints := []) mixed (.cons (d_chain_find N) (.cons (d_chain_clone N) .nil)) .nil Tryz.func130 (by kernel_rfl) (by kernel_rfl)
end Go.Proofs.YthjmbcnohgaihaaGreat
