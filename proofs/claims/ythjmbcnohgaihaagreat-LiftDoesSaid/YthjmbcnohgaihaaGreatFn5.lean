/- Written by a program (gen.py, asm.py): what each function computes, as a plain function, and that its text computes it. No condition. -/
import Derived.Test.YthjmbcnohgaihaaGreatFn4
import Derived.Test.YthjmbcnohgaihaaGreatCmo
namespace Go.Proofs.YthjmbcnohgaihaaGreat
open Go.Cm Go.Proofs
set_option linter.unusedVariables false
set_option maxRecDepth 100000

def chain_isPerson (N : Nat) (x0 : Int) : Option Bool :=
 
  (bif decide (x0 ≥ (1 : Int)) then some (decide (x0 ≤ (9999 : Int))) else some false).bind fun (r1 : Bool) => some r1
theorem d_chain_isPerson (N : Nat) : DenF Tryz.prog 152 ⟨[.t_i64], [.t_bool], [[none]], chain_isPerson N⟩ :=
  den_of (N := N) (gam := []) (txt := []) (hints := [(152, [([0, 1], ⟨[], [], [(.nrm, [.reg 2 .t_bool [none]])], []⟩)])]) mixed .nil .nil Tryz.func152 (by kernel_rfl) (by kernel_rfl)

def chain_Clear (N : Nat) (x0 : Chain) (x1 x2 : Int) : Option (Chain × Int) :=
 
  (chain_find N x0 x1).bind fun (r3 : Int) =>
    bif decide (r3 < (0 : Int)) then some (z_Chain, (8 : Int))
    else
      (chain_isPerson N x2).bind fun (r4 : Bool) =>
        bif !r4 then some (z_Chain, (17 : Int))
        else
          bif decide ((0 : Int) ≤ r3) && decide (r3 < (↑x0.Contacts.length : Int)) then
            bif !(x0.Contacts.getD r3.toNat z_Contact).Closed then some (z_Chain, (10 : Int))
            else
              (chain_clone N x0).bind fun (r5 : Chain) =>
                bif decide ((0 : Int) ≤ r3) && decide (r3 < (↑r5.Contacts.length : Int)) then
                  (some
                        (r5.Contacts.set r3.toNat
                          (Contact.mk (r5.Contacts.getD r3.toNat z_Contact).ID
                            (r5.Contacts.getD r3.toNat z_Contact).Critical (r5.Contacts.getD r3.toNat z_Contact).Closed
                            false (r5.Contacts.getD r3.toNat z_Contact).Until))).bind
                    fun (r6 : List Contact) => some (Chain.mk r6 r5.Key, (0 : Int))
                else none
          else none
theorem d_chain_Clear (N : Nat) : DenF Tryz.prog 131 ⟨[.t_Chain, .t_i64, .t_i64], [.t_Chain, .t_i64], [[some 92, none], [none]], chain_Clear N⟩ :=
  den_of (N := N) (gam := [(113, ⟨[.t_Chain, .t_i64], [.t_i64], [[none]], chain_find N⟩), (152, ⟨[.t_i64], [.t_bool], [[none]], chain_isPerson N⟩), (138, ⟨[.t_Chain], [.t_Chain], [[some 92, none]], chain_clone N⟩)]) (txt := []) (hints := []) mixed (.cons (d_chain_find N) (.cons (d_chain_isPerson N) (.cons (d_chain_clone N) .nil))) .nil Tryz.func131 (by kernel_rfl) (by kernel_rfl)

def chain_Take (N : Nat) (x0 : Chain) (x1 : Int) : Option (Chain × Int) :=
 
  (chain_isPerson N x1).bind fun (r2 : Bool) =>
    bif !r2 then some (z_Chain, (17 : Int))
    else
      (bif x0.Key != (0 : Int) then some (x0.Key != x1) else some false).bind fun (r3 : Bool) =>
        bif r3 then some (z_Chain, (15 : Int))
        else
          (chain_clone N x0).bind fun (r4 : Chain) =>
            bif r4.Key == (0 : Int) then some (Chain.mk r4.Contacts x1, (0 : Int))
            else
              (whileF N
                    (fun (p5 : Int × List Contact) =>
                      bif decide (p5.fst < (↑r4.Contacts.length : Int)) then
                        bif decide ((0 : Int) ≤ p5.fst) && decide (p5.fst < (↑(List.length p5.snd) : Int)) then
                          (some
                                (List.set p5.snd (Int.toNat p5.fst)
                                  (Contact.mk (List.getD p5.snd (Int.toNat p5.fst) z_Contact).ID
                                    (List.getD p5.snd (Int.toNat p5.fst) z_Contact).Critical
                                    (List.getD p5.snd (Int.toNat p5.fst) z_Contact).Closed
                                    (List.getD p5.snd (Int.toNat p5.fst) z_Contact).Latched (0 : Int)))).bind
                            fun (r6 : List Contact) => some (Sum.inl (IntKind.i64.wrap (p5.fst + (1 : Int)), r6))
                        else none
                      else some (Sum.inr p5.snd))
                    ((0 : Int), r4.Contacts)).bind
                fun (r7 : List Contact) => some (Chain.mk r7 (0 : Int), (0 : Int))
theorem d_chain_Take (N : Nat) : DenF Tryz.prog 132 ⟨[.t_Chain, .t_i64], [.t_Chain, .t_i64], [[some 92, none], [none]], chain_Take N⟩ :=
  den_of (N := N) (gam := [(152, ⟨[.t_i64], [.t_bool], [[none]], chain_isPerson N⟩), (138, ⟨[.t_Chain], [.t_Chain], [[some 92, none]], chain_clone N⟩)]) (txt := []) (hints := [(132, [([0, 0, 1, 1], ⟨[1, 2, 4], [], [(.nrm, [.reg 19 .t_bool [none]])], []⟩), ([0, 1, 0, 1, 1, 1, 1, 1, 1], ⟨[2, 4, 32], [.reg 33 .t_i64 [none], .rowc 2 0 .l_Contact], [(.ex 0, [.rowc 2 0 .l_Contact])], []⟩)])]) mixed (.cons (d_chain_isPerson N) (.cons (d_chain_clone N) .nil)) .nil Tryz.func132 (by kernel_rfl) (by kernel_rfl)

def chain_Bypass (N : Nat) (x0 : Chain) (x1 x2 x3 : Int) : Option (Chain × Int) :=
 
  (chain_find N x0 x1).bind fun (r4 : Int) =>
    bif decide (r4 < (0 : Int)) then some (z_Chain, (8 : Int))
    else
      (bif x2 == (0 : Int) then some true else some (x2 != x0.Key)).bind fun (r5 : Bool) =>
        bif r5 then some (z_Chain, (17 : Int))
        else
          bif decide ((0 : Int) ≤ r4) && decide (r4 < (↑x0.Contacts.length : Int)) then
            bif (x0.Contacts.getD r4.toNat z_Contact).Critical then some (z_Chain, (13 : Int))
            else
              (whileF N
                    (fun (p6 : Int × Chain) =>
                      bif decide (p6.fst < (↑x0.Contacts.length : Int)) then
                        (bif p6.fst != r4 then
                              bif decide ((0 : Int) ≤ p6.fst) && decide (p6.fst < (↑x0.Contacts.length : Int)) then
                                some ((x0.Contacts.getD (Int.toNat p6.fst) z_Contact).Until != (0 : Int))
                              else none
                            else some false).bind
                          fun (r7 : Bool) =>
                          bif r7 then some (Sum.inr (Sum.inr ((15 : Int), z_Chain)))
                          else some (Sum.inl (IntKind.i64.wrap (p6.fst + (1 : Int)), p6.snd))
                      else some (Sum.inr (Sum.inl p6.snd)))
                    ((0 : Int), z_Chain)).bind
                fun (r8 : Chain ⊕ Int × Chain) =>
                Sum.elim
                  (fun (p9 : Chain) =>
                    (bif decide (x3 < (1 : Int)) then some true else some (decide (x3 > (20000000 : Int)))).bind
                      fun (r10 : Bool) =>
                      bif r10 then some (z_Chain, (2 : Int))
                      else
                        (chain_clone N x0).bind fun (r11 : Chain) =>
                          bif decide ((0 : Int) ≤ r4) && decide (r4 < (↑r11.Contacts.length : Int)) then
                            (some
                                  (r11.Contacts.set r4.toNat
                                    (Contact.mk (r11.Contacts.getD r4.toNat z_Contact).ID
                                      (r11.Contacts.getD r4.toNat z_Contact).Critical
                                      (r11.Contacts.getD r4.toNat z_Contact).Closed
                                      (r11.Contacts.getD r4.toNat z_Contact).Latched x3))).bind
                              fun (r12 : List Contact) => some (Chain.mk r12 r11.Key, (0 : Int))
                          else none)
                  (fun (p13 : Int × Chain) => some (p13.snd, p13.fst)) r8
          else none
theorem d_chain_Bypass (N : Nat) : DenF Tryz.prog 133 ⟨[.t_Chain, .t_i64, .t_i64, .t_i64], [.t_Chain, .t_i64], [[some 92, none], [none]], chain_Bypass N⟩ :=
  den_of (N := N) (gam := [(113, ⟨[.t_Chain, .t_i64], [.t_i64], [[none]], chain_find N⟩), (138, ⟨[.t_Chain], [.t_Chain], [[some 92, none]], chain_clone N⟩)]) (txt := []) (hints := [(133, [([0, 0, 1, 1, 1], ⟨[3, 4, 8, 10], [], [(.nrm, [.reg 25 .t_bool [none]])], []⟩), ([0, 1, 0, 1, 1, 1, 1, 1], ⟨[3, 4, 8, 10, 36], [.reg 37 .t_i64 [none], .var 8 .t_Chain [some 92, none]], [(.ex 0, [.var 8 .t_Chain [some 92, none]]), (.ret, [.reg 9 .t_i64 [none], .var 8 .t_Chain [some 92, none]])], []⟩), ([0, 1, 0, 0, 1, 1, 0, 0, 1, 0, 1, 1, 1, 1, 1], ⟨[3, 4, 8, 10, 36, 37], [], [(.nrm, [.reg 51 .t_bool [none]])], []⟩), ([0, 0, 1, 1, 1, 1, 1, 1], ⟨[3, 4, 8, 10], [], [(.nrm, [.reg 59 .t_bool [none]])], []⟩)])]) mixed (.cons (d_chain_find N) (.cons (d_chain_clone N) .nil)) .nil Tryz.func133 (by kernel_rfl) (by kernel_rfl)

def brake_Test (N : Nat) (x0 : List Brake) (x1 x2 x3 : Int) : Option ((List Brake) × Int) :=
 
  (brake_find N x0 x1).bind fun (r4 : Int) =>
    bif decide (r4 < (0 : Int)) then some ([], (8 : Int))
    else
      ((brake_within N x2 (0 : Int) (10000000 : Int)).bind fun (r5 : Bool) =>
            bif !r5 then some true
            else (brake_within N x3 (0 : Int) (20000000 : Int)).bind fun (r6 : Bool) => some !r6).bind
        fun (r7 : Bool) =>
        bif r7 then some ([], (2 : Int))
        else
          bif decide ((0 : Int) ≤ r4) && decide (r4 < (↑x0.length : Int)) then
            bif decide (x3 < (x0.getD r4.toNat z_Brake).Tested) then some ([], (11 : Int))
            else
              (sl_Clone_Brake N x0).bind fun (r8 : List Brake) =>
                bif decide ((0 : Int) ≤ r4) && decide (r4 < (↑r8.length : Int)) then
                  (some
                        (r8.set r4.toNat
                          (Brake.mk (r8.getD r4.toNat z_Brake).ID (r8.getD r4.toNat z_Brake).Kind
                            (r8.getD r4.toNat z_Brake).Force x3 (r8.getD r4.toNat z_Brake).Measured))).bind
                    fun (r9 : List Brake) =>
                    bif decide ((0 : Int) ≤ r4) && decide (r4 < (↑r9.length : Int)) then
                      (some
                            (r9.set r4.toNat
                              (Brake.mk (r9.getD r4.toNat z_Brake).ID (r9.getD r4.toNat z_Brake).Kind
                                (r9.getD r4.toNat z_Brake).Force (r9.getD r4.toNat z_Brake).Tested x2))).bind
                        fun (r10 : List Brake) => some (r10, (0 : Int))
                    else none
                else none
          else none
theorem d_brake_Test (N : Nat) : DenF Tryz.prog 134 ⟨[.l_Brake, .t_i64, .t_i64, .t_i64], [.l_Brake, .t_i64], [[some 89], [none]], brake_Test N⟩ :=
  den_of (N := N) (gam := [(73, ⟨[.l_Brake, .t_i64], [.t_i64], [[none]], brake_find N⟩), (110, ⟨[.t_i64, .t_i64, .t_i64], [.t_bool], [[none]], brake_within N⟩), (81, ⟨[.l_Brake], [.l_Brake], [[some 89]], sl_Clone_Brake N⟩)]) (txt := []) (hints := [(134, [([0, 0, 1, 1, 1], ⟨[0, 2, 3, 10], [], [(.nrm, [.reg 24 .t_bool [none]])], []⟩)])]) mixed (.cons (d_brake_find N) (.cons (d_brake_within N) (.cons (d_sl_Clone_Brake N) .nil))) .nil Tryz.func134 (by kernel_rfl) (by kernel_rfl)

def inspect_Sign (N : Nat) (x0 : Checklist) (x1 x2 x3 : Int) : Option (Checklist × Int) :=
 
  (sl_Clone_int N x0.Items).bind fun (r4 : List Int) =>
    (whileF N
          (fun (p5 : Int × Checklist) =>
            bif decide (p5.fst < (↑x0.Signs.length : Int)) then
              bif decide ((0 : Int) ≤ p5.fst) && decide (p5.fst < (↑x0.Signs.length : Int)) then
                (bif (x0.Signs.getD (Int.toNat p5.fst) z_Sign).Item != x1 then
                      (some [x0.Signs.getD (Int.toNat p5.fst) z_Sign]).bind fun (r6 : List Sign) =>
                        bif decide ((p5.snd.Signs.length + r6.length) * 24 ≤ 140737488355328) then
                          (some (p5.snd.Signs ++ r6)).bind fun (r7 : List Sign) =>
                            some (Checklist.mk p5.snd.Items p5.snd.Every r7)
                        else none
                    else some p5.snd).bind
                  fun (r8 : Checklist) => some (Sum.inl (IntKind.i64.wrap (p5.fst + (1 : Int)), r8))
              else none
            else some (Sum.inr p5.snd))
          ((0 : Int), Checklist.mk r4 x0.Every [])).bind
      fun (r9 : Checklist) =>
      (some [Sign.mk x1 x2 x3]).bind fun (r10 : List Sign) =>
        bif decide ((r9.Signs.length + r10.length) * 24 ≤ 140737488355328) then
          (some (r9.Signs ++ r10)).bind fun (r11 : List Sign) =>
            (inspect_Right N (Checklist.mk r9.Items r9.Every r11)).bind fun (r12 : Int) =>
              bif r12 != (0 : Int) then some (z_Checklist, r12)
              else some (Checklist.mk r9.Items r9.Every r11, (0 : Int))
        else none
theorem d_inspect_Sign (N : Nat) : DenF Tryz.prog 135 ⟨[.t_Checklist, .t_i64, .t_i64, .t_i64], [.t_Checklist, .t_i64], [[none, none, none], [none]], inspect_Sign N⟩ :=
  den_of (N := N) (gam := [(83, ⟨[.l_i64], [.l_i64], [[some 3]], sl_Clone_int N⟩), (40, ⟨[.t_Checklist], [.t_i64], [[none]], inspect_Right N⟩)]) (txt := []) (hints := [(135, [([0, 1, 0, 1, 1], ⟨[1, 2, 3, 8, 10, 21, 22], [.reg 23 .t_i64 [none], .var 10 .t_Checklist [none, none, some 97]], [(.ex 0, [.var 10 .t_Checklist [none, none, some 97]])], []⟩), ([1, 1, 0, 0, 1, 1, 0, 0, 1, 0, 1, 1], ⟨[1, 2, 3, 8, 10, 21, 22, 23], [], [(.nrm, [.var 10 .t_Checklist [none, none, some 97]])], []⟩)])]) mixed (.cons (d_sl_Clone_int N) (.cons (d_inspect_Right N) .nil)) .nil Tryz.func135 (by kernel_rfl) (by kernel_rfl)

def queue_Join (N : Nat) (x0 : Queue) (x1 : Int) : Option (Queue × Int) :=
 
  (bif decide (x1 < (1 : Int)) then some true else some (decide (x1 > (16 : Int)))).bind fun (r2 : Bool) =>
    bif r2 then some (z_Queue, (2 : Int))
    else
      bif decide ((↑x0.Groups.length : Int) ≥ (200 : Int)) then some (z_Queue, (9 : Int))
      else
        (queue_clone N x0.Groups).bind fun (r3 : List Int) =>
          (some [x1]).bind fun (r4 : List Int) =>
            bif decide ((r3.length + r4.length) * 8 ≤ 140737488355328) then
              (some (r3 ++ r4)).bind fun (r5 : List Int) => some (Queue.mk r5 x0.Singles, (0 : Int))
            else none
theorem d_queue_Join (N : Nat) : DenF Tryz.prog 136 ⟨[.t_Queue, .t_i64], [.t_Queue, .t_i64], [[some 3, none], [none]], queue_Join N⟩ :=
  den_of (N := N) (gam := [(153, ⟨[.l_i64], [.l_i64], [[some 3]], queue_clone N⟩)]) (txt := []) (hints := [(136, [([0, 0, 1], ⟨[1, 2, 4], [], [(.nrm, [.reg 11 .t_bool [none]])], []⟩)])]) mixed (.cons (d_queue_clone N) .nil) .nil Tryz.func136 (by kernel_rfl) (by kernel_rfl)

def queue_Single (N : Nat) (x0 : Queue) (x1 : Int) : Option (Queue × Int) :=
 
  (bif decide (x1 < (1 : Int)) then some true else some (decide (x1 > (1000 : Int)))).bind fun (r2 : Bool) =>
    bif r2 then some (z_Queue, (2 : Int))
    else
      bif decide (IntKind.i64.wrap (x0.Singles + x1) > (10000 : Int)) then some (z_Queue, (9 : Int))
      else
        (queue_clone N x0.Groups).bind fun (r3 : List Int) =>
          some (Queue.mk r3 (IntKind.i64.wrap (x0.Singles + x1)), (0 : Int))
theorem d_queue_Single (N : Nat) : DenF Tryz.prog 137 ⟨[.t_Queue, .t_i64], [.t_Queue, .t_i64], [[some 3, none], [none]], queue_Single N⟩ :=
  den_of (N := N) (gam := [(153, ⟨[.l_i64], [.l_i64], [[some 3]], queue_clone N⟩)]) (txt := []) (hints := [(137, [([0, 0, 1], ⟨[1, 2, 4], [], [(.nrm, [.reg 11 .t_bool [none]])], []⟩)])]) mixed (.cons (d_queue_clone N) .nil) .nil Tryz.func137 (by kernel_rfl) (by kernel_rfl)

def lift_Do (N : Nat) (x0 : LiftState) (x1 : LiftEvent) : Option (LiftState × Int) :=
 
  (lift_Right N x0).bind fun (r2 : Bool) =>
    bif !r2 then some (z_LiftState, (1 : Int))
    else
      (lift_clone N x0).bind fun (r3 : LiftState) =>
        bif x1.Kind == (1 : Int) then
          (bif decide (x1.N < (1 : Int)) then some true
              else
                bif decide (x1.N > (600 : Int)) then some true
                else some (decide (IntKind.i64.wrap (r3.Time + x1.N) > (20000000 : Int)))).bind
            fun (r4 : Bool) =>
            bif r4 then some (z_LiftState, (2 : Int))
            else
              (whileF N
                    (fun (p5 : Int × LiftState) =>
                      bif decide (p5.fst < x1.N) then
                        (drive_Step N p5.snd.Motor p5.snd.Drive (1 : Int)).bind fun (r6 : Drive) =>
                          (rope_Move N p5.snd.Line r6.Speed).bind fun (r7 : Line × Int × Int × Int) =>
                            bif r7.snd.snd.snd != (0 : Int) then
                              some
                                (Sum.inr
                                  (Sum.inr
                                    (r7.snd.snd.snd,
                                      LiftState.mk p5.snd.Lift p5.snd.Motor r6 p5.snd.Brakes p5.snd.Chain p5.snd.Wind
                                        p5.snd.Line p5.snd.Queue p5.snd.Checks
                                        (IntKind.i64.wrap (p5.snd.Time + (1 : Int))) p5.snd.Mode p5.snd.Up p5.snd.Off)))
                            else
                              (bif decide (r7.snd.fst ≥ (0 : Int)) then some (p5.snd.Mode == (1 : Int))
                                  else some false).bind
                                fun (r8 : Bool) =>
                                (bif r8 then
                                      (queue_Seat N p5.snd.Queue p5.snd.Lift.Seats).bind fun (r9 : Queue × Int × Int) =>
                                        bif r9.snd.snd != (0 : Int) then
                                          bif r9.snd.snd != (0 : Int) then
                                            some
                                              (Sum.inr
                                                (r9.snd.snd,
                                                  LiftState.mk p5.snd.Lift p5.snd.Motor r6 p5.snd.Brakes p5.snd.Chain
                                                    p5.snd.Wind r7.fst p5.snd.Queue p5.snd.Checks
                                                    (IntKind.i64.wrap (p5.snd.Time + (1 : Int))) p5.snd.Mode p5.snd.Up
                                                    (IntKind.i64.wrap (p5.snd.Off + r7.snd.snd.fst))))
                                          else
                                            some
                                              (Sum.inl
                                                (LiftState.mk p5.snd.Lift p5.snd.Motor r6 p5.snd.Brakes p5.snd.Chain
                                                  p5.snd.Wind r7.fst p5.snd.Queue p5.snd.Checks
                                                  (IntKind.i64.wrap (p5.snd.Time + (1 : Int))) p5.snd.Mode p5.snd.Up
                                                  (IntKind.i64.wrap (p5.snd.Off + r7.snd.snd.fst))))
                                        else
                                          (rope_Load N r7.fst r7.snd.fst r9.snd.fst p5.snd.Lift.Seats).bind
                                            fun (r10 : Line × Int) =>
                                            bif r10.snd != (0 : Int) then
                                              bif r10.snd != (0 : Int) then
                                                some
                                                  (Sum.inr
                                                    (r10.snd,
                                                      LiftState.mk p5.snd.Lift p5.snd.Motor r6 p5.snd.Brakes
                                                        p5.snd.Chain p5.snd.Wind r7.fst p5.snd.Queue p5.snd.Checks
                                                        (IntKind.i64.wrap (p5.snd.Time + (1 : Int))) p5.snd.Mode
                                                        p5.snd.Up (IntKind.i64.wrap (p5.snd.Off + r7.snd.snd.fst))))
                                              else
                                                some
                                                  (Sum.inl
                                                    (LiftState.mk p5.snd.Lift p5.snd.Motor r6 p5.snd.Brakes p5.snd.Chain
                                                      p5.snd.Wind r7.fst p5.snd.Queue p5.snd.Checks
                                                      (IntKind.i64.wrap (p5.snd.Time + (1 : Int))) p5.snd.Mode p5.snd.Up
                                                      (IntKind.i64.wrap (p5.snd.Off + r7.snd.snd.fst))))
                                            else
                                              some
                                                (Sum.inl
                                                  (LiftState.mk p5.snd.Lift p5.snd.Motor r6 p5.snd.Brakes p5.snd.Chain
                                                    p5.snd.Wind r10.fst r9.fst p5.snd.Checks
                                                    (IntKind.i64.wrap (p5.snd.Time + (1 : Int))) p5.snd.Mode
                                                    (IntKind.i64.wrap (p5.snd.Up + r9.snd.fst))
                                                    (IntKind.i64.wrap (p5.snd.Off + r7.snd.snd.fst))))
                                    else
                                      some
                                        (Sum.inl
                                          (LiftState.mk p5.snd.Lift p5.snd.Motor r6 p5.snd.Brakes p5.snd.Chain
                                            p5.snd.Wind r7.fst p5.snd.Queue p5.snd.Checks
                                            (IntKind.i64.wrap (p5.snd.Time + (1 : Int))) p5.snd.Mode p5.snd.Up
                                            (IntKind.i64.wrap (p5.snd.Off + r7.snd.snd.fst))))).bind
                                  fun (r11 : LiftState ⊕ Int × LiftState) =>
                                  Sum.elim
                                    (fun (p12 : LiftState) =>
                                      (chain_Expire N p12.Chain p12.Time).bind fun (r13 : Chain) =>
                                        (bif p12.Mode == (3 : Int) then
                                              (rope_People N p12.Line).bind fun (r14 : Int) => some (r14 == (0 : Int))
                                            else some false).bind
                                          fun (r15 : Bool) =>
                                          (bif r15 then
                                                some
                                                  (LiftState.mk p12.Lift p12.Motor p12.Drive p12.Brakes r13 p12.Wind
                                                    p12.Line p12.Queue p12.Checks p12.Time (0 : Int) p12.Up p12.Off)
                                              else
                                                some
                                                  (LiftState.mk p12.Lift p12.Motor p12.Drive p12.Brakes r13 p12.Wind
                                                    p12.Line p12.Queue p12.Checks p12.Time p12.Mode p12.Up
                                                    p12.Off)).bind
                                            fun (r16 : LiftState) =>
                                            bif r16.Drive.State != (1 : Int) then
                                              some (Sum.inl (IntKind.i64.wrap (p5.fst + (1 : Int)), r16))
                                            else
                                              bif r16.Mode == (0 : Int) then
                                                (drive_Halt N r16.Motor r16.Drive).bind fun (r17 : Drive) =>
                                                  some
                                                    (Sum.inl
                                                      (IntKind.i64.wrap (p5.fst + (1 : Int)),
                                                        LiftState.mk r16.Lift r16.Motor r17 r16.Brakes r16.Chain
                                                          r16.Wind r16.Line r16.Queue r16.Checks r16.Time r16.Mode
                                                          r16.Up r16.Off))
                                              else
                                                (lift_May N r16).bind fun (r18 : Int) =>
                                                  (bif r18 == (0 : Int) then some r16
                                                      else
                                                        (bif r18 == (13 : Int) then some (r18 == (13 : Int))
                                                            else some (r18 == (14 : Int))).bind
                                                          fun (r19 : Bool) =>
                                                          (bif r19 then
                                                                (drive_Emergency N r16.Motor r16.Drive).bind
                                                                  fun (r20 : Drive) =>
                                                                  some
                                                                    (LiftState.mk r16.Lift r16.Motor r20 r16.Brakes
                                                                      r16.Chain r16.Wind r16.Line r16.Queue r16.Checks
                                                                      r16.Time r16.Mode r16.Up r16.Off)
                                                              else
                                                                (drive_Halt N r16.Motor r16.Drive).bind
                                                                  fun (r21 : Drive) =>
                                                                  some
                                                                    (LiftState.mk r16.Lift r16.Motor r21 r16.Brakes
                                                                      r16.Chain r16.Wind r16.Line r16.Queue r16.Checks
                                                                      r16.Time r16.Mode r16.Up r16.Off)).bind
                                                            fun (r22 : LiftState) => some r22).bind
                                                    fun (r23 : LiftState) =>
                                                    some (Sum.inl (IntKind.i64.wrap (p5.fst + (1 : Int)), r23)))
                                    (fun (p24 : Int × LiftState) => some (Sum.inr (Sum.inr p24))) r11
                      else some (Sum.inr (Sum.inl p5.snd)))
                    ((0 : Int), r3)).bind
                fun (r25 : LiftState ⊕ Int × LiftState) =>
                Sum.elim
                  (fun (p26 : LiftState) =>
                    (bif decide (p26.Up > (1125899906842624 : Int)) then some true
                        else some (decide (p26.Off > (1125899906842624 : Int)))).bind
                      fun (r27 : Bool) =>
                      bif r27 then some (z_LiftState, (12 : Int))
                      else
                        (bif x1.Kind != (1 : Int) then
                              (chain_Expire N p26.Chain p26.Time).bind fun (r28 : Chain) =>
                                (bif p26.Mode == (3 : Int) then
                                      (rope_People N p26.Line).bind fun (r29 : Int) => some (r29 == (0 : Int))
                                    else some false).bind
                                  fun (r30 : Bool) =>
                                  (bif r30 then
                                        some
                                          (LiftState.mk p26.Lift p26.Motor p26.Drive p26.Brakes r28 p26.Wind p26.Line
                                            p26.Queue p26.Checks p26.Time (0 : Int) p26.Up p26.Off)
                                      else
                                        some
                                          (LiftState.mk p26.Lift p26.Motor p26.Drive p26.Brakes r28 p26.Wind p26.Line
                                            p26.Queue p26.Checks p26.Time p26.Mode p26.Up p26.Off)).bind
                                    fun (r31 : LiftState) =>
                                    bif r31.Drive.State != (1 : Int) then some r31
                                    else
                                      bif r31.Mode == (0 : Int) then
                                        (drive_Halt N r31.Motor r31.Drive).bind fun (r32 : Drive) =>
                                          some
                                            (LiftState.mk r31.Lift r31.Motor r32 r31.Brakes r31.Chain r31.Wind r31.Line
                                              r31.Queue r31.Checks r31.Time r31.Mode r31.Up r31.Off)
                                      else
                                        (lift_May N r31).bind fun (r33 : Int) =>
                                          (bif r33 == (0 : Int) then some r31
                                              else
                                                (bif r33 == (13 : Int) then some (r33 == (13 : Int))
                                                    else some (r33 == (14 : Int))).bind
                                                  fun (r34 : Bool) =>
                                                  (bif r34 then
                                                        (drive_Emergency N r31.Motor r31.Drive).bind
                                                          fun (r35 : Drive) =>
                                                          some
                                                            (LiftState.mk r31.Lift r31.Motor r35 r31.Brakes r31.Chain
                                                              r31.Wind r31.Line r31.Queue r31.Checks r31.Time r31.Mode
                                                              r31.Up r31.Off)
                                                      else
                                                        (drive_Halt N r31.Motor r31.Drive).bind fun (r36 : Drive) =>
                                                          some
                                                            (LiftState.mk r31.Lift r31.Motor r36 r31.Brakes r31.Chain
                                                              r31.Wind r31.Line r31.Queue r31.Checks r31.Time r31.Mode
                                                              r31.Up r31.Off)).bind
                                                    fun (r37 : LiftState) => some r37).bind
                                            fun (r38 : LiftState) => some r38
                            else some p26).bind
                          fun (r39 : LiftState) => some (r39, (0 : Int)))
                  (fun (p40 : Int × LiftState) =>
                    bif p40.fst != (0 : Int) then some (z_LiftState, p40.fst)
                    else
                      (bif x1.Kind != (1 : Int) then
                            (chain_Expire N p40.snd.Chain p40.snd.Time).bind fun (r41 : Chain) =>
                              (bif p40.snd.Mode == (3 : Int) then
                                    (rope_People N p40.snd.Line).bind fun (r42 : Int) => some (r42 == (0 : Int))
                                  else some false).bind
                                fun (r43 : Bool) =>
                                (bif r43 then
                                      some
                                        (LiftState.mk p40.snd.Lift p40.snd.Motor p40.snd.Drive p40.snd.Brakes r41
                                          p40.snd.Wind p40.snd.Line p40.snd.Queue p40.snd.Checks p40.snd.Time (0 : Int)
                                          p40.snd.Up p40.snd.Off)
                                    else
                                      some
                                        (LiftState.mk p40.snd.Lift p40.snd.Motor p40.snd.Drive p40.snd.Brakes r41
                                          p40.snd.Wind p40.snd.Line p40.snd.Queue p40.snd.Checks p40.snd.Time
                                          p40.snd.Mode p40.snd.Up p40.snd.Off)).bind
                                  fun (r44 : LiftState) =>
                                  bif r44.Drive.State != (1 : Int) then some r44
                                  else
                                    bif r44.Mode == (0 : Int) then
                                      (drive_Halt N r44.Motor r44.Drive).bind fun (r45 : Drive) =>
                                        some
                                          (LiftState.mk r44.Lift r44.Motor r45 r44.Brakes r44.Chain r44.Wind r44.Line
                                            r44.Queue r44.Checks r44.Time r44.Mode r44.Up r44.Off)
                                    else
                                      (lift_May N r44).bind fun (r46 : Int) =>
                                        (bif r46 == (0 : Int) then some r44
                                            else
                                              (bif r46 == (13 : Int) then some (r46 == (13 : Int))
                                                  else some (r46 == (14 : Int))).bind
                                                fun (r47 : Bool) =>
                                                (bif r47 then
                                                      (drive_Emergency N r44.Motor r44.Drive).bind fun (r48 : Drive) =>
                                                        some
                                                          (LiftState.mk r44.Lift r44.Motor r48 r44.Brakes r44.Chain
                                                            r44.Wind r44.Line r44.Queue r44.Checks r44.Time r44.Mode
                                                            r44.Up r44.Off)
                                                    else
                                                      (drive_Halt N r44.Motor r44.Drive).bind fun (r49 : Drive) =>
                                                        some
                                                          (LiftState.mk r44.Lift r44.Motor r49 r44.Brakes r44.Chain
                                                            r44.Wind r44.Line r44.Queue r44.Checks r44.Time r44.Mode
                                                            r44.Up r44.Off)).bind
                                                  fun (r50 : LiftState) => some r50).bind
                                          fun (r51 : LiftState) => some r51
                          else some p40.snd).bind
                        fun (r52 : LiftState) => some (r52, (0 : Int)))
                  r25
        else
          (bif x1.Kind == (2 : Int) then some (x1.Kind == (2 : Int))
              else
                (bif x1.Kind == (3 : Int) then some (x1.Kind == (3 : Int))
                    else
                      (bif x1.Kind == (17 : Int) then some (x1.Kind == (17 : Int))
                          else
                            (bif x1.Kind == (18 : Int) then some (x1.Kind == (18 : Int))
                                else some (x1.Kind == (19 : Int))).bind
                              fun (r53 : Bool) => some r53).bind
                        fun (r54 : Bool) => some r54).bind
                  fun (r55 : Bool) => some r55).bind
            fun (r56 : Bool) =>
            bif r56 then
              (bif x1.Kind == (2 : Int) then
                    bif r3.Mode != (0 : Int) then some (Sum.inr ((10 : Int), r3))
                    else
                      (lift_May N r3).bind fun (r57 : Int) =>
                        bif r57 != (0 : Int) then some (Sum.inr (r57, r3))
                        else
                          some
                            (Sum.inl
                              (LiftState.mk r3.Lift r3.Motor r3.Drive r3.Brakes r3.Chain r3.Wind r3.Line r3.Queue
                                r3.Checks r3.Time (1 : Int) r3.Up r3.Off))
                  else
                    (bif x1.Kind == (3 : Int) then
                          bif r3.Mode != (1 : Int) then some (Sum.inr ((10 : Int), r3))
                          else
                            some
                              (Sum.inl
                                (LiftState.mk r3.Lift r3.Motor r3.Drive r3.Brakes r3.Chain r3.Wind r3.Line z_Queue
                                  r3.Checks r3.Time (3 : Int) r3.Up r3.Off))
                        else
                          bif x1.Kind == (17 : Int) then
                            (bif r3.Mode == (0 : Int) then some true else some (r3.Mode == (2 : Int))).bind
                              fun (r58 : Bool) =>
                              bif r58 then some (Sum.inr ((10 : Int), r3))
                              else
                                bif r3.Drive.Speed != (0 : Int) then some (Sum.inr ((13 : Int), r3))
                                else
                                  (bif r3.Drive.State == (1 : Int) then some (decide (r3.Drive.Target > (1000 : Int)))
                                      else some false).bind
                                    fun (r59 : Bool) =>
                                    (bif r59 then
                                          (drive_Halt N r3.Motor r3.Drive).bind fun (r60 : Drive) =>
                                            some
                                              (LiftState.mk r3.Lift r3.Motor r60 r3.Brakes r3.Chain r3.Wind r3.Line
                                                z_Queue r3.Checks r3.Time (2 : Int) r3.Up r3.Off)
                                        else
                                          some
                                            (LiftState.mk r3.Lift r3.Motor r3.Drive r3.Brakes r3.Chain r3.Wind r3.Line
                                              z_Queue r3.Checks r3.Time (2 : Int) r3.Up r3.Off)).bind
                                      fun (r61 : LiftState) => some (Sum.inr ((0 : Int), r61))
                          else
                            bif x1.Kind == (18 : Int) then
                              bif r3.Mode != (2 : Int) then some (Sum.inr ((10 : Int), r3))
                              else
                                bif r3.Drive.Speed != (0 : Int) then some (Sum.inr ((13 : Int), r3))
                                else
                                  (rope_Take N r3.Line x1.M x1.N).bind fun (r62 : Line × Int) =>
                                    bif r62.snd != (0 : Int) then some (Sum.inr (r62.snd, r3))
                                    else
                                      bif decide (IntKind.i64.wrap (r3.Off + x1.N) > (1125899906842624 : Int)) then
                                        some (Sum.inr ((12 : Int), r3))
                                      else
                                        some
                                          (Sum.inr
                                            ((0 : Int),
                                              LiftState.mk r3.Lift r3.Motor r3.Drive r3.Brakes r3.Chain r3.Wind r62.fst
                                                r3.Queue r3.Checks r3.Time r3.Mode r3.Up
                                                (IntKind.i64.wrap (r3.Off + x1.N))))
                            else
                              (bif x1.Kind == (19 : Int) then
                                    bif r3.Mode != (2 : Int) then some (Sum.inr ((10 : Int), r3))
                                    else
                                      (rope_People N r3.Line).bind fun (r63 : Int) =>
                                        bif decide (r63 > (0 : Int)) then some (Sum.inr ((13 : Int), r3))
                                        else
                                          some
                                            (Sum.inl
                                              (LiftState.mk r3.Lift r3.Motor r3.Drive r3.Brakes r3.Chain r3.Wind r3.Line
                                                r3.Queue r3.Checks r3.Time (0 : Int) r3.Up r3.Off))
                                  else some (Sum.inl r3)).bind
                                fun (r64 : LiftState ⊕ Int × LiftState) =>
                                Sum.elim (fun (p65 : LiftState) => some (Sum.inl p65))
                                  (fun (p66 : Int × LiftState) => some (Sum.inr p66)) r64).bind
                      fun (r67 : LiftState ⊕ Int × LiftState) =>
                      Sum.elim (fun (p68 : LiftState) => some (Sum.inl p68))
                        (fun (p69 : Int × LiftState) => some (Sum.inr p69)) r67).bind
                fun (r70 : LiftState ⊕ Int × LiftState) =>
                Sum.elim
                  (fun (p71 : LiftState) =>
                    (bif x1.Kind != (1 : Int) then
                          (chain_Expire N p71.Chain p71.Time).bind fun (r72 : Chain) =>
                            (bif p71.Mode == (3 : Int) then
                                  (rope_People N p71.Line).bind fun (r73 : Int) => some (r73 == (0 : Int))
                                else some false).bind
                              fun (r74 : Bool) =>
                              (bif r74 then
                                    some
                                      (LiftState.mk p71.Lift p71.Motor p71.Drive p71.Brakes r72 p71.Wind p71.Line
                                        p71.Queue p71.Checks p71.Time (0 : Int) p71.Up p71.Off)
                                  else
                                    some
                                      (LiftState.mk p71.Lift p71.Motor p71.Drive p71.Brakes r72 p71.Wind p71.Line
                                        p71.Queue p71.Checks p71.Time p71.Mode p71.Up p71.Off)).bind
                                fun (r75 : LiftState) =>
                                bif r75.Drive.State != (1 : Int) then some r75
                                else
                                  bif r75.Mode == (0 : Int) then
                                    (drive_Halt N r75.Motor r75.Drive).bind fun (r76 : Drive) =>
                                      some
                                        (LiftState.mk r75.Lift r75.Motor r76 r75.Brakes r75.Chain r75.Wind r75.Line
                                          r75.Queue r75.Checks r75.Time r75.Mode r75.Up r75.Off)
                                  else
                                    (lift_May N r75).bind fun (r77 : Int) =>
                                      (bif r77 == (0 : Int) then some r75
                                          else
                                            (bif r77 == (13 : Int) then some (r77 == (13 : Int))
                                                else some (r77 == (14 : Int))).bind
                                              fun (r78 : Bool) =>
                                              (bif r78 then
                                                    (drive_Emergency N r75.Motor r75.Drive).bind fun (r79 : Drive) =>
                                                      some
                                                        (LiftState.mk r75.Lift r75.Motor r79 r75.Brakes r75.Chain
                                                          r75.Wind r75.Line r75.Queue r75.Checks r75.Time r75.Mode
                                                          r75.Up r75.Off)
                                                  else
                                                    (drive_Halt N r75.Motor r75.Drive).bind fun (r80 : Drive) =>
                                                      some
                                                        (LiftState.mk r75.Lift r75.Motor r80 r75.Brakes r75.Chain
                                                          r75.Wind r75.Line r75.Queue r75.Checks r75.Time r75.Mode
                                                          r75.Up r75.Off)).bind
                                                fun (r81 : LiftState) => some r81).bind
                                        fun (r82 : LiftState) => some r82
                        else some p71).bind
                      fun (r83 : LiftState) => some (r83, (0 : Int)))
                  (fun (p84 : Int × LiftState) =>
                    bif p84.fst != (0 : Int) then some (z_LiftState, p84.fst)
                    else
                      (bif x1.Kind != (1 : Int) then
                            (chain_Expire N p84.snd.Chain p84.snd.Time).bind fun (r85 : Chain) =>
                              (bif p84.snd.Mode == (3 : Int) then
                                    (rope_People N p84.snd.Line).bind fun (r86 : Int) => some (r86 == (0 : Int))
                                  else some false).bind
                                fun (r87 : Bool) =>
                                (bif r87 then
                                      some
                                        (LiftState.mk p84.snd.Lift p84.snd.Motor p84.snd.Drive p84.snd.Brakes r85
                                          p84.snd.Wind p84.snd.Line p84.snd.Queue p84.snd.Checks p84.snd.Time (0 : Int)
                                          p84.snd.Up p84.snd.Off)
                                    else
                                      some
                                        (LiftState.mk p84.snd.Lift p84.snd.Motor p84.snd.Drive p84.snd.Brakes r85
                                          p84.snd.Wind p84.snd.Line p84.snd.Queue p84.snd.Checks p84.snd.Time
                                          p84.snd.Mode p84.snd.Up p84.snd.Off)).bind
                                  fun (r88 : LiftState) =>
                                  bif r88.Drive.State != (1 : Int) then some r88
                                  else
                                    bif r88.Mode == (0 : Int) then
                                      (drive_Halt N r88.Motor r88.Drive).bind fun (r89 : Drive) =>
                                        some
                                          (LiftState.mk r88.Lift r88.Motor r89 r88.Brakes r88.Chain r88.Wind r88.Line
                                            r88.Queue r88.Checks r88.Time r88.Mode r88.Up r88.Off)
                                    else
                                      (lift_May N r88).bind fun (r90 : Int) =>
                                        (bif r90 == (0 : Int) then some r88
                                            else
                                              (bif r90 == (13 : Int) then some (r90 == (13 : Int))
                                                  else some (r90 == (14 : Int))).bind
                                                fun (r91 : Bool) =>
                                                (bif r91 then
                                                      (drive_Emergency N r88.Motor r88.Drive).bind fun (r92 : Drive) =>
                                                        some
                                                          (LiftState.mk r88.Lift r88.Motor r92 r88.Brakes r88.Chain
                                                            r88.Wind r88.Line r88.Queue r88.Checks r88.Time r88.Mode
                                                            r88.Up r88.Off)
                                                    else
                                                      (drive_Halt N r88.Motor r88.Drive).bind fun (r93 : Drive) =>
                                                        some
                                                          (LiftState.mk r88.Lift r88.Motor r93 r88.Brakes r88.Chain
                                                            r88.Wind r88.Line r88.Queue r88.Checks r88.Time r88.Mode
                                                            r88.Up r88.Off)).bind
                                                  fun (r94 : LiftState) => some r94).bind
                                          fun (r95 : LiftState) => some r95
                          else some p84.snd).bind
                        fun (r96 : LiftState) => some (r96, (0 : Int)))
                  r70
            else
              (bif x1.Kind == (4 : Int) then some (x1.Kind == (4 : Int))
                  else
                    (bif x1.Kind == (5 : Int) then some (x1.Kind == (5 : Int))
                        else
                          (bif x1.Kind == (6 : Int) then some (x1.Kind == (6 : Int))
                              else some (x1.Kind == (7 : Int))).bind
                            fun (r97 : Bool) => some r97).bind
                      fun (r98 : Bool) => some r98).bind
                fun (r99 : Bool) =>
                bif r99 then
                  (bif x1.Kind == (4 : Int) then
                        bif r3.Mode == (0 : Int) then some (Sum.inr ((10 : Int), r3))
                        else
                          (bif r3.Mode == (2 : Int) then some (decide (x1.N > (1000 : Int))) else some false).bind
                            fun (r100 : Bool) =>
                            bif r100 then some (Sum.inr ((2 : Int), r3))
                            else
                              (lift_May N r3).bind fun (r101 : Int) =>
                                bif r101 != (0 : Int) then some (Sum.inr (r101, r3))
                                else
                                  (drive_Start N r3.Motor r3.Drive x1.N).bind fun (r102 : Drive × Int) =>
                                    some
                                      (Sum.inl
                                        (r102.snd,
                                          LiftState.mk r3.Lift r3.Motor r102.fst r3.Brakes r3.Chain r3.Wind r3.Line
                                            r3.Queue r3.Checks r3.Time r3.Mode r3.Up r3.Off))
                      else
                        (bif x1.Kind == (5 : Int) then
                              (drive_Halt N r3.Motor r3.Drive).bind fun (r103 : Drive) =>
                                some
                                  ((0 : Int),
                                    LiftState.mk r3.Lift r3.Motor r103 r3.Brakes r3.Chain r3.Wind r3.Line r3.Queue
                                      r3.Checks r3.Time r3.Mode r3.Up r3.Off)
                            else
                              (bif x1.Kind == (6 : Int) then
                                    (drive_Emergency N r3.Motor r3.Drive).bind fun (r104 : Drive) =>
                                      some
                                        ((0 : Int),
                                          LiftState.mk r3.Lift r3.Motor r104 r3.Brakes r3.Chain r3.Wind r3.Line r3.Queue
                                            r3.Checks r3.Time r3.Mode r3.Up r3.Off)
                                  else
                                    (bif x1.Kind == (7 : Int) then
                                          (drive_Reset N r3.Motor r3.Drive).bind fun (r105 : Drive × Int) =>
                                            some
                                              (r105.snd,
                                                LiftState.mk r3.Lift r3.Motor r105.fst r3.Brakes r3.Chain r3.Wind
                                                  r3.Line r3.Queue r3.Checks r3.Time r3.Mode r3.Up r3.Off)
                                        else some ((0 : Int), r3)).bind
                                      fun (r106 : Int × LiftState) => some r106).bind
                                fun (r107 : Int × LiftState) => some r107).bind
                          fun (r108 : Int × LiftState) => some (Sum.inl r108)).bind
                    fun (r109 : Int × LiftState ⊕ Int × LiftState) =>
                    Sum.elim
                      (fun (p110 : Int × LiftState) =>
                        bif p110.fst != (0 : Int) then some (z_LiftState, p110.fst)
                        else
                          (bif x1.Kind != (1 : Int) then
                                (chain_Expire N p110.snd.Chain p110.snd.Time).bind fun (r111 : Chain) =>
                                  (bif p110.snd.Mode == (3 : Int) then
                                        (rope_People N p110.snd.Line).bind fun (r112 : Int) => some (r112 == (0 : Int))
                                      else some false).bind
                                    fun (r113 : Bool) =>
                                    (bif r113 then
                                          some
                                            (LiftState.mk p110.snd.Lift p110.snd.Motor p110.snd.Drive p110.snd.Brakes
                                              r111 p110.snd.Wind p110.snd.Line p110.snd.Queue p110.snd.Checks
                                              p110.snd.Time (0 : Int) p110.snd.Up p110.snd.Off)
                                        else
                                          some
                                            (LiftState.mk p110.snd.Lift p110.snd.Motor p110.snd.Drive p110.snd.Brakes
                                              r111 p110.snd.Wind p110.snd.Line p110.snd.Queue p110.snd.Checks
                                              p110.snd.Time p110.snd.Mode p110.snd.Up p110.snd.Off)).bind
                                      fun (r114 : LiftState) =>
                                      bif r114.Drive.State != (1 : Int) then some r114
                                      else
                                        bif r114.Mode == (0 : Int) then
                                          (drive_Halt N r114.Motor r114.Drive).bind fun (r115 : Drive) =>
                                            some
                                              (LiftState.mk r114.Lift r114.Motor r115 r114.Brakes r114.Chain r114.Wind
                                                r114.Line r114.Queue r114.Checks r114.Time r114.Mode r114.Up r114.Off)
                                        else
                                          (lift_May N r114).bind fun (r116 : Int) =>
                                            (bif r116 == (0 : Int) then some r114
                                                else
                                                  (bif r116 == (13 : Int) then some (r116 == (13 : Int))
                                                      else some (r116 == (14 : Int))).bind
                                                    fun (r117 : Bool) =>
                                                    (bif r117 then
                                                          (drive_Emergency N r114.Motor r114.Drive).bind
                                                            fun (r118 : Drive) =>
                                                            some
                                                              (LiftState.mk r114.Lift r114.Motor r118 r114.Brakes
                                                                r114.Chain r114.Wind r114.Line r114.Queue r114.Checks
                                                                r114.Time r114.Mode r114.Up r114.Off)
                                                        else
                                                          (drive_Halt N r114.Motor r114.Drive).bind
                                                            fun (r119 : Drive) =>
                                                            some
                                                              (LiftState.mk r114.Lift r114.Motor r119 r114.Brakes
                                                                r114.Chain r114.Wind r114.Line r114.Queue r114.Checks
                                                                r114.Time r114.Mode r114.Up r114.Off)).bind
                                                      fun (r120 : LiftState) => some r120).bind
                                              fun (r121 : LiftState) => some r121
                              else some p110.snd).bind
                            fun (r122 : LiftState) => some (r122, (0 : Int)))
                      (fun (p123 : Int × LiftState) =>
                        bif p123.fst != (0 : Int) then some (z_LiftState, p123.fst)
                        else
                          (bif x1.Kind != (1 : Int) then
                                (chain_Expire N p123.snd.Chain p123.snd.Time).bind fun (r124 : Chain) =>
                                  (bif p123.snd.Mode == (3 : Int) then
                                        (rope_People N p123.snd.Line).bind fun (r125 : Int) => some (r125 == (0 : Int))
                                      else some false).bind
                                    fun (r126 : Bool) =>
                                    (bif r126 then
                                          some
                                            (LiftState.mk p123.snd.Lift p123.snd.Motor p123.snd.Drive p123.snd.Brakes
                                              r124 p123.snd.Wind p123.snd.Line p123.snd.Queue p123.snd.Checks
                                              p123.snd.Time (0 : Int) p123.snd.Up p123.snd.Off)
                                        else
                                          some
                                            (LiftState.mk p123.snd.Lift p123.snd.Motor p123.snd.Drive p123.snd.Brakes
                                              r124 p123.snd.Wind p123.snd.Line p123.snd.Queue p123.snd.Checks
                                              p123.snd.Time p123.snd.Mode p123.snd.Up p123.snd.Off)).bind
                                      fun (r127 : LiftState) =>
                                      bif r127.Drive.State != (1 : Int) then some r127
                                      else
                                        bif r127.Mode == (0 : Int) then
                                          (drive_Halt N r127.Motor r127.Drive).bind fun (r128 : Drive) =>
                                            some
                                              (LiftState.mk r127.Lift r127.Motor r128 r127.Brakes r127.Chain r127.Wind
                                                r127.Line r127.Queue r127.Checks r127.Time r127.Mode r127.Up r127.Off)
                                        else
                                          (lift_May N r127).bind fun (r129 : Int) =>
                                            (bif r129 == (0 : Int) then some r127
                                                else
                                                  (bif r129 == (13 : Int) then some (r129 == (13 : Int))
                                                      else some (r129 == (14 : Int))).bind
                                                    fun (r130 : Bool) =>
                                                    (bif r130 then
                                                          (drive_Emergency N r127.Motor r127.Drive).bind
                                                            fun (r131 : Drive) =>
                                                            some
                                                              (LiftState.mk r127.Lift r127.Motor r131 r127.Brakes
                                                                r127.Chain r127.Wind r127.Line r127.Queue r127.Checks
                                                                r127.Time r127.Mode r127.Up r127.Off)
                                                        else
                                                          (drive_Halt N r127.Motor r127.Drive).bind
                                                            fun (r132 : Drive) =>
                                                            some
                                                              (LiftState.mk r127.Lift r127.Motor r132 r127.Brakes
                                                                r127.Chain r127.Wind r127.Line r127.Queue r127.Checks
                                                                r127.Time r127.Mode r127.Up r127.Off)).bind
                                                      fun (r133 : LiftState) => some r133).bind
                                              fun (r134 : LiftState) => some r134
                              else some p123.snd).bind
                            fun (r135 : LiftState) => some (r135, (0 : Int)))
                      r109
                else
                  (bif x1.Kind == (8 : Int) then some (x1.Kind == (8 : Int))
                      else
                        (bif x1.Kind == (9 : Int) then some (x1.Kind == (9 : Int))
                            else
                              (bif x1.Kind == (10 : Int) then some (x1.Kind == (10 : Int))
                                  else
                                    (bif x1.Kind == (11 : Int) then some (x1.Kind == (11 : Int))
                                        else some (x1.Kind == (12 : Int))).bind
                                      fun (r136 : Bool) => some r136).bind
                                fun (r137 : Bool) => some r137).bind
                          fun (r138 : Bool) => some r138).bind
                    fun (r139 : Bool) =>
                    bif r139 then
                      (bif x1.Kind == (8 : Int) then
                            (chain_Break N r3.Chain x1.N).bind fun (r140 : Chain × Int) =>
                              some
                                (Sum.inl
                                  (r140.snd,
                                    LiftState.mk r3.Lift r3.Motor r3.Drive r3.Brakes r140.fst r3.Wind r3.Line r3.Queue
                                      r3.Checks r3.Time r3.Mode r3.Up r3.Off))
                          else
                            (bif x1.Kind == (9 : Int) then
                                  (chain_Make N r3.Chain x1.N).bind fun (r141 : Chain × Int) =>
                                    some
                                      (Sum.inl
                                        (r141.snd,
                                          LiftState.mk r3.Lift r3.Motor r3.Drive r3.Brakes r141.fst r3.Wind r3.Line
                                            r3.Queue r3.Checks r3.Time r3.Mode r3.Up r3.Off))
                                else
                                  (bif x1.Kind == (10 : Int) then
                                        (chain_Clear N r3.Chain x1.N x1.By).bind fun (r142 : Chain × Int) =>
                                          some
                                            (Sum.inl
                                              (r142.snd,
                                                LiftState.mk r3.Lift r3.Motor r3.Drive r3.Brakes r142.fst r3.Wind
                                                  r3.Line r3.Queue r3.Checks r3.Time r3.Mode r3.Up r3.Off))
                                      else
                                        (bif x1.Kind == (11 : Int) then
                                              (chain_Take N r3.Chain x1.By).bind fun (r143 : Chain × Int) =>
                                                some
                                                  (Sum.inl
                                                    (r143.snd,
                                                      LiftState.mk r3.Lift r3.Motor r3.Drive r3.Brakes r143.fst r3.Wind
                                                        r3.Line r3.Queue r3.Checks r3.Time r3.Mode r3.Up r3.Off))
                                            else
                                              (bif x1.Kind == (12 : Int) then
                                                    (bif decide (x1.M < (1 : Int)) then some true
                                                        else some (decide (x1.M > (3600 : Int)))).bind
                                                      fun (r144 : Bool) =>
                                                      bif r144 then some (Sum.inr ((2 : Int), r3))
                                                      else
                                                        (chain_Bypass N r3.Chain x1.N x1.By
                                                              (IntKind.i64.wrap (r3.Time + x1.M))).bind
                                                          fun (r145 : Chain × Int) =>
                                                          some
                                                            (Sum.inl
                                                              (r145.snd,
                                                                LiftState.mk r3.Lift r3.Motor r3.Drive r3.Brakes
                                                                  r145.fst r3.Wind r3.Line r3.Queue r3.Checks r3.Time
                                                                  r3.Mode r3.Up r3.Off))
                                                  else some (Sum.inl ((0 : Int), r3))).bind
                                                fun (r146 : Int × LiftState ⊕ Int × LiftState) =>
                                                Sum.elim (fun (p147 : Int × LiftState) => some (Sum.inl p147))
                                                  (fun (p148 : Int × LiftState) => some (Sum.inr p148)) r146).bind
                                          fun (r149 : Int × LiftState ⊕ Int × LiftState) =>
                                          Sum.elim (fun (p150 : Int × LiftState) => some (Sum.inl p150))
                                            (fun (p151 : Int × LiftState) => some (Sum.inr p151)) r149).bind
                                    fun (r152 : Int × LiftState ⊕ Int × LiftState) =>
                                    Sum.elim (fun (p153 : Int × LiftState) => some (Sum.inl p153))
                                      (fun (p154 : Int × LiftState) => some (Sum.inr p154)) r152).bind
                              fun (r155 : Int × LiftState ⊕ Int × LiftState) =>
                              Sum.elim (fun (p156 : Int × LiftState) => some (Sum.inl p156))
                                (fun (p157 : Int × LiftState) => some (Sum.inr p157)) r155).bind
                        fun (r158 : Int × LiftState ⊕ Int × LiftState) =>
                        Sum.elim
                          (fun (p159 : Int × LiftState) =>
                            bif p159.fst != (0 : Int) then some (z_LiftState, p159.fst)
                            else
                              (bif x1.Kind != (1 : Int) then
                                    (chain_Expire N p159.snd.Chain p159.snd.Time).bind fun (r160 : Chain) =>
                                      (bif p159.snd.Mode == (3 : Int) then
                                            (rope_People N p159.snd.Line).bind fun (r161 : Int) =>
                                              some (r161 == (0 : Int))
                                          else some false).bind
                                        fun (r162 : Bool) =>
                                        (bif r162 then
                                              some
                                                (LiftState.mk p159.snd.Lift p159.snd.Motor p159.snd.Drive
                                                  p159.snd.Brakes r160 p159.snd.Wind p159.snd.Line p159.snd.Queue
                                                  p159.snd.Checks p159.snd.Time (0 : Int) p159.snd.Up p159.snd.Off)
                                            else
                                              some
                                                (LiftState.mk p159.snd.Lift p159.snd.Motor p159.snd.Drive
                                                  p159.snd.Brakes r160 p159.snd.Wind p159.snd.Line p159.snd.Queue
                                                  p159.snd.Checks p159.snd.Time p159.snd.Mode p159.snd.Up
                                                  p159.snd.Off)).bind
                                          fun (r163 : LiftState) =>
                                          bif r163.Drive.State != (1 : Int) then some r163
                                          else
                                            bif r163.Mode == (0 : Int) then
                                              (drive_Halt N r163.Motor r163.Drive).bind fun (r164 : Drive) =>
                                                some
                                                  (LiftState.mk r163.Lift r163.Motor r164 r163.Brakes r163.Chain
                                                    r163.Wind r163.Line r163.Queue r163.Checks r163.Time r163.Mode
                                                    r163.Up r163.Off)
                                            else
                                              (lift_May N r163).bind fun (r165 : Int) =>
                                                (bif r165 == (0 : Int) then some r163
                                                    else
                                                      (bif r165 == (13 : Int) then some (r165 == (13 : Int))
                                                          else some (r165 == (14 : Int))).bind
                                                        fun (r166 : Bool) =>
                                                        (bif r166 then
                                                              (drive_Emergency N r163.Motor r163.Drive).bind
                                                                fun (r167 : Drive) =>
                                                                some
                                                                  (LiftState.mk r163.Lift r163.Motor r167 r163.Brakes
                                                                    r163.Chain r163.Wind r163.Line r163.Queue
                                                                    r163.Checks r163.Time r163.Mode r163.Up r163.Off)
                                                            else
                                                              (drive_Halt N r163.Motor r163.Drive).bind
                                                                fun (r168 : Drive) =>
                                                                some
                                                                  (LiftState.mk r163.Lift r163.Motor r168 r163.Brakes
                                                                    r163.Chain r163.Wind r163.Line r163.Queue
                                                                    r163.Checks r163.Time r163.Mode r163.Up
                                                                    r163.Off)).bind
                                                          fun (r169 : LiftState) => some r169).bind
                                                  fun (r170 : LiftState) => some r170
                                  else some p159.snd).bind
                                fun (r171 : LiftState) => some (r171, (0 : Int)))
                          (fun (p172 : Int × LiftState) =>
                            bif p172.fst != (0 : Int) then some (z_LiftState, p172.fst)
                            else
                              (bif x1.Kind != (1 : Int) then
                                    (chain_Expire N p172.snd.Chain p172.snd.Time).bind fun (r173 : Chain) =>
                                      (bif p172.snd.Mode == (3 : Int) then
                                            (rope_People N p172.snd.Line).bind fun (r174 : Int) =>
                                              some (r174 == (0 : Int))
                                          else some false).bind
                                        fun (r175 : Bool) =>
                                        (bif r175 then
                                              some
                                                (LiftState.mk p172.snd.Lift p172.snd.Motor p172.snd.Drive
                                                  p172.snd.Brakes r173 p172.snd.Wind p172.snd.Line p172.snd.Queue
                                                  p172.snd.Checks p172.snd.Time (0 : Int) p172.snd.Up p172.snd.Off)
                                            else
                                              some
                                                (LiftState.mk p172.snd.Lift p172.snd.Motor p172.snd.Drive
                                                  p172.snd.Brakes r173 p172.snd.Wind p172.snd.Line p172.snd.Queue
                                                  p172.snd.Checks p172.snd.Time p172.snd.Mode p172.snd.Up
                                                  p172.snd.Off)).bind
                                          fun (r176 : LiftState) =>
                                          bif r176.Drive.State != (1 : Int) then some r176
                                          else
                                            bif r176.Mode == (0 : Int) then
                                              (drive_Halt N r176.Motor r176.Drive).bind fun (r177 : Drive) =>
                                                some
                                                  (LiftState.mk r176.Lift r176.Motor r177 r176.Brakes r176.Chain
                                                    r176.Wind r176.Line r176.Queue r176.Checks r176.Time r176.Mode
                                                    r176.Up r176.Off)
                                            else
                                              (lift_May N r176).bind fun (r178 : Int) =>
                                                (bif r178 == (0 : Int) then some r176
                                                    else
                                                      (bif r178 == (13 : Int) then some (r178 == (13 : Int))
                                                          else some (r178 == (14 : Int))).bind
                                                        fun (r179 : Bool) =>
                                                        (bif r179 then
                                                              (drive_Emergency N r176.Motor r176.Drive).bind
                                                                fun (r180 : Drive) =>
                                                                some
                                                                  (LiftState.mk r176.Lift r176.Motor r180 r176.Brakes
                                                                    r176.Chain r176.Wind r176.Line r176.Queue
                                                                    r176.Checks r176.Time r176.Mode r176.Up r176.Off)
                                                            else
                                                              (drive_Halt N r176.Motor r176.Drive).bind
                                                                fun (r181 : Drive) =>
                                                                some
                                                                  (LiftState.mk r176.Lift r176.Motor r181 r176.Brakes
                                                                    r176.Chain r176.Wind r176.Line r176.Queue
                                                                    r176.Checks r176.Time r176.Mode r176.Up
                                                                    r176.Off)).bind
                                                          fun (r182 : LiftState) => some r182).bind
                                                  fun (r183 : LiftState) => some r183
                                  else some p172.snd).bind
                                fun (r184 : LiftState) => some (r184, (0 : Int)))
                          r158
                    else
                      (bif x1.Kind == (13 : Int) then some (x1.Kind == (13 : Int))
                          else
                            (bif x1.Kind == (14 : Int) then some (x1.Kind == (14 : Int))
                                else
                                  (bif x1.Kind == (15 : Int) then some (x1.Kind == (15 : Int))
                                      else some (x1.Kind == (16 : Int))).bind
                                    fun (r185 : Bool) => some r185).bind
                              fun (r186 : Bool) => some r186).bind
                        fun (r187 : Bool) =>
                        bif r187 then
                          (bif x1.Kind == (13 : Int) then
                                bif r3.Drive.State != (0 : Int) then some (Sum.inr ((10 : Int), r3))
                                else
                                  (brake_Test N r3.Brakes x1.N x1.M r3.Time).bind fun (r188 : List Brake × Int) =>
                                    some
                                      (Sum.inl
                                        (r188.snd,
                                          LiftState.mk r3.Lift r3.Motor r3.Drive r188.fst r3.Chain r3.Wind r3.Line
                                            r3.Queue r3.Checks r3.Time r3.Mode r3.Up r3.Off))
                              else
                                (bif x1.Kind == (14 : Int) then
                                      (weather_Update N r3.Wind x1.N r3.Time).bind fun (r189 : Alarm × Int) =>
                                        some
                                          (Sum.inl
                                            (r189.snd,
                                              LiftState.mk r3.Lift r3.Motor r3.Drive r3.Brakes r3.Chain r189.fst r3.Line
                                                r3.Queue r3.Checks r3.Time r3.Mode r3.Up r3.Off))
                                    else
                                      (bif x1.Kind == (15 : Int) then
                                            (inspect_Sign N r3.Checks x1.N x1.By r3.Time).bind
                                              fun (r190 : Checklist × Int) =>
                                              some
                                                (Sum.inl
                                                  (r190.snd,
                                                    LiftState.mk r3.Lift r3.Motor r3.Drive r3.Brakes r3.Chain r3.Wind
                                                      r3.Line r3.Queue r190.fst r3.Time r3.Mode r3.Up r3.Off))
                                          else
                                            (bif x1.Kind == (16 : Int) then
                                                  bif r3.Mode != (1 : Int) then some (Sum.inr ((10 : Int), r3))
                                                  else
                                                    (bif x1.M == (0 : Int) then
                                                          (queue_Join N r3.Queue x1.N).bind fun (r191 : Queue × Int) =>
                                                            some
                                                              (Sum.inl
                                                                (r191.snd,
                                                                  LiftState.mk r3.Lift r3.Motor r3.Drive r3.Brakes
                                                                    r3.Chain r3.Wind r3.Line r191.fst r3.Checks r3.Time
                                                                    r3.Mode r3.Up r3.Off))
                                                        else
                                                          bif x1.M == (1 : Int) then
                                                            (queue_Single N r3.Queue x1.N).bind
                                                              fun (r192 : Queue × Int) =>
                                                              some
                                                                (Sum.inl
                                                                  (r192.snd,
                                                                    LiftState.mk r3.Lift r3.Motor r3.Drive r3.Brakes
                                                                      r3.Chain r3.Wind r3.Line r192.fst r3.Checks
                                                                      r3.Time r3.Mode r3.Up r3.Off))
                                                          else some (Sum.inr ((2 : Int), r3))).bind
                                                      fun (r193 : Int × LiftState ⊕ Int × LiftState) =>
                                                      Sum.elim (fun (p194 : Int × LiftState) => some (Sum.inl p194))
                                                        (fun (p195 : Int × LiftState) => some (Sum.inr p195)) r193
                                                else some (Sum.inl ((0 : Int), r3))).bind
                                              fun (r196 : Int × LiftState ⊕ Int × LiftState) =>
                                              Sum.elim (fun (p197 : Int × LiftState) => some (Sum.inl p197))
                                                (fun (p198 : Int × LiftState) => some (Sum.inr p198)) r196).bind
                                        fun (r199 : Int × LiftState ⊕ Int × LiftState) =>
                                        Sum.elim (fun (p200 : Int × LiftState) => some (Sum.inl p200))
                                          (fun (p201 : Int × LiftState) => some (Sum.inr p201)) r199).bind
                                  fun (r202 : Int × LiftState ⊕ Int × LiftState) =>
                                  Sum.elim (fun (p203 : Int × LiftState) => some (Sum.inl p203))
                                    (fun (p204 : Int × LiftState) => some (Sum.inr p204)) r202).bind
                            fun (r205 : Int × LiftState ⊕ Int × LiftState) =>
                            Sum.elim
                              (fun (p206 : Int × LiftState) =>
                                bif p206.fst != (0 : Int) then some (z_LiftState, p206.fst)
                                else
                                  (bif x1.Kind != (1 : Int) then
                                        (chain_Expire N p206.snd.Chain p206.snd.Time).bind fun (r207 : Chain) =>
                                          (bif p206.snd.Mode == (3 : Int) then
                                                (rope_People N p206.snd.Line).bind fun (r208 : Int) =>
                                                  some (r208 == (0 : Int))
                                              else some false).bind
                                            fun (r209 : Bool) =>
                                            (bif r209 then
                                                  some
                                                    (LiftState.mk p206.snd.Lift p206.snd.Motor p206.snd.Drive
                                                      p206.snd.Brakes r207 p206.snd.Wind p206.snd.Line p206.snd.Queue
                                                      p206.snd.Checks p206.snd.Time (0 : Int) p206.snd.Up p206.snd.Off)
                                                else
                                                  some
                                                    (LiftState.mk p206.snd.Lift p206.snd.Motor p206.snd.Drive
                                                      p206.snd.Brakes r207 p206.snd.Wind p206.snd.Line p206.snd.Queue
                                                      p206.snd.Checks p206.snd.Time p206.snd.Mode p206.snd.Up
                                                      p206.snd.Off)).bind
                                              fun (r210 : LiftState) =>
                                              bif r210.Drive.State != (1 : Int) then some r210
                                              else
                                                bif r210.Mode == (0 : Int) then
                                                  (drive_Halt N r210.Motor r210.Drive).bind fun (r211 : Drive) =>
                                                    some
                                                      (LiftState.mk r210.Lift r210.Motor r211 r210.Brakes r210.Chain
                                                        r210.Wind r210.Line r210.Queue r210.Checks r210.Time r210.Mode
                                                        r210.Up r210.Off)
                                                else
                                                  (lift_May N r210).bind fun (r212 : Int) =>
                                                    (bif r212 == (0 : Int) then some r210
                                                        else
                                                          (bif r212 == (13 : Int) then some (r212 == (13 : Int))
                                                              else some (r212 == (14 : Int))).bind
                                                            fun (r213 : Bool) =>
                                                            (bif r213 then
                                                                  (drive_Emergency N r210.Motor r210.Drive).bind
                                                                    fun (r214 : Drive) =>
                                                                    some
                                                                      (LiftState.mk r210.Lift r210.Motor r214
                                                                        r210.Brakes r210.Chain r210.Wind r210.Line
                                                                        r210.Queue r210.Checks r210.Time r210.Mode
                                                                        r210.Up r210.Off)
                                                                else
                                                                  (drive_Halt N r210.Motor r210.Drive).bind
                                                                    fun (r215 : Drive) =>
                                                                    some
                                                                      (LiftState.mk r210.Lift r210.Motor r215
                                                                        r210.Brakes r210.Chain r210.Wind r210.Line
                                                                        r210.Queue r210.Checks r210.Time r210.Mode
                                                                        r210.Up r210.Off)).bind
                                                              fun (r216 : LiftState) => some r216).bind
                                                      fun (r217 : LiftState) => some r217
                                      else some p206.snd).bind
                                    fun (r218 : LiftState) => some (r218, (0 : Int)))
                              (fun (p219 : Int × LiftState) =>
                                bif p219.fst != (0 : Int) then some (z_LiftState, p219.fst)
                                else
                                  (bif x1.Kind != (1 : Int) then
                                        (chain_Expire N p219.snd.Chain p219.snd.Time).bind fun (r220 : Chain) =>
                                          (bif p219.snd.Mode == (3 : Int) then
                                                (rope_People N p219.snd.Line).bind fun (r221 : Int) =>
                                                  some (r221 == (0 : Int))
                                              else some false).bind
                                            fun (r222 : Bool) =>
                                            (bif r222 then
                                                  some
                                                    (LiftState.mk p219.snd.Lift p219.snd.Motor p219.snd.Drive
                                                      p219.snd.Brakes r220 p219.snd.Wind p219.snd.Line p219.snd.Queue
                                                      p219.snd.Checks p219.snd.Time (0 : Int) p219.snd.Up p219.snd.Off)
                                                else
                                                  some
                                                    (LiftState.mk p219.snd.Lift p219.snd.Motor p219.snd.Drive
                                                      p219.snd.Brakes r220 p219.snd.Wind p219.snd.Line p219.snd.Queue
                                                      p219.snd.Checks p219.snd.Time p219.snd.Mode p219.snd.Up
                                                      p219.snd.Off)).bind
                                              fun (r223 : LiftState) =>
                                              bif r223.Drive.State != (1 : Int) then some r223
                                              else
                                                bif r223.Mode == (0 : Int) then
                                                  (drive_Halt N r223.Motor r223.Drive).bind fun (r224 : Drive) =>
                                                    some
                                                      (LiftState.mk r223.Lift r223.Motor r224 r223.Brakes r223.Chain
                                                        r223.Wind r223.Line r223.Queue r223.Checks r223.Time r223.Mode
                                                        r223.Up r223.Off)
                                                else
                                                  (lift_May N r223).bind fun (r225 : Int) =>
                                                    (bif r225 == (0 : Int) then some r223
                                                        else
                                                          (bif r225 == (13 : Int) then some (r225 == (13 : Int))
                                                              else some (r225 == (14 : Int))).bind
                                                            fun (r226 : Bool) =>
                                                            (bif r226 then
                                                                  (drive_Emergency N r223.Motor r223.Drive).bind
                                                                    fun (r227 : Drive) =>
                                                                    some
                                                                      (LiftState.mk r223.Lift r223.Motor r227
                                                                        r223.Brakes r223.Chain r223.Wind r223.Line
                                                                        r223.Queue r223.Checks r223.Time r223.Mode
                                                                        r223.Up r223.Off)
                                                                else
                                                                  (drive_Halt N r223.Motor r223.Drive).bind
                                                                    fun (r228 : Drive) =>
                                                                    some
                                                                      (LiftState.mk r223.Lift r223.Motor r228
                                                                        r223.Brakes r223.Chain r223.Wind r223.Line
                                                                        r223.Queue r223.Checks r223.Time r223.Mode
                                                                        r223.Up r223.Off)).bind
                                                              fun (r229 : LiftState) => some r229).bind
                                                      fun (r230 : LiftState) => some r230
                                      else some p219.snd).bind
                                    fun (r231 : LiftState) => some (r231, (0 : Int)))
                              r205
                        else some (z_LiftState, (18 : Int))
theorem d_lift_Do (N : Nat) : DenF Tryz.prog 20 ⟨[.t_LiftState, .t_LiftEvent], [.t_LiftState, .t_i64], [[none, none, none, none, none, none, none, none, none, none, none, none, none, none, none, none, none, none, none, none, none, none, none, none, none, none, none, none, none, none, none, none, none, none, none, none, none], [none]], lift_Do N⟩ :=
  den_of (N := N) (gam := [(11, ⟨[.t_LiftState], [.t_bool], [[none]], lift_Right N⟩), (52, ⟨[.t_LiftState], [.t_LiftState], [[none, none, none, none, none, none, none, none, none, none, none, none, none, none, none, none, some 89, some 92, none, none, none, none, none, none, none, none, none, some 3, some 3, none, some 3, none, some 97, none, none, none, none]], lift_clone N⟩), (122, ⟨[.t_Motor, .t_Drive, .t_i64], [.t_Drive], [[none, none, none, none]], drive_Step N⟩), (123, ⟨[.t_Line, .t_i64], [.t_Line, .t_i64, .t_i64, .t_i64], [[none, none, none, some 3], [none], [none], [none]], rope_Move N⟩), (149, ⟨[.t_Queue, .t_i64], [.t_Queue, .t_i64, .t_i64], [[none, none], [none], [none]], queue_Seat N⟩), (150, ⟨[.t_Line, .t_i64, .t_i64, .t_i64], [.t_Line, .t_i64], [[none, none, none, some 3], [none]], rope_Load N⟩), (90, ⟨[.t_Chain, .t_i64], [.t_Chain], [[some 92, none]], chain_Expire N⟩), (41, ⟨[.t_Line], [.t_i64], [[none]], rope_People N⟩), (91, ⟨[.t_Motor, .t_Drive], [.t_Drive], [[none, none, none, none]], drive_Halt N⟩), (18, ⟨[.t_LiftState], [.t_i64], [[none]], lift_May N⟩), (92, ⟨[.t_Motor, .t_Drive], [.t_Drive], [[none, none, none, none]], drive_Emergency N⟩), (151, ⟨[.t_Line, .t_i64, .t_i64], [.t_Line, .t_i64], [[none, none, none, some 3], [none]], rope_Take N⟩), (127, ⟨[.t_Motor, .t_Drive, .t_i64], [.t_Drive, .t_i64], [[none, none, none, none], [none]], drive_Start N⟩), (128, ⟨[.t_Motor, .t_Drive], [.t_Drive, .t_i64], [[none, none, none, none], [none]], drive_Reset N⟩), (129, ⟨[.t_Chain, .t_i64], [.t_Chain, .t_i64], [[some 92, none], [none]], chain_Break N⟩), (130, ⟨[.t_Chain, .t_i64], [.t_Chain, .t_i64], [[some 92, none], [none]], chain_Make N⟩), (131, ⟨[.t_Chain, .t_i64, .t_i64], [.t_Chain, .t_i64], [[some 92, none], [none]], chain_Clear N⟩), (132, ⟨[.t_Chain, .t_i64], [.t_Chain, .t_i64], [[some 92, none], [none]], chain_Take N⟩), (133, ⟨[.t_Chain, .t_i64, .t_i64, .t_i64], [.t_Chain, .t_i64], [[some 92, none], [none]], chain_Bypass N⟩), (134, ⟨[.l_Brake, .t_i64, .t_i64, .t_i64], [.l_Brake, .t_i64], [[some 89], [none]], brake_Test N⟩), (69, ⟨[.t_Alarm, .t_i64, .t_i64], [.t_Alarm, .t_i64], [[none, none, none, none, none], [none]], weather_Update N⟩), (135, ⟨[.t_Checklist, .t_i64, .t_i64, .t_i64], [.t_Checklist, .t_i64], [[none, none, none], [none]], inspect_Sign N⟩), (136, ⟨[.t_Queue, .t_i64], [.t_Queue, .t_i64], [[some 3, none], [none]], queue_Join N⟩), (137, ⟨[.t_Queue, .t_i64], [.t_Queue, .t_i64], [[some 3, none], [none]], queue_Single N⟩)]) (txt := [(53, Tryz.f53), (85, Tryz.f85), (124, Tryz.f124), (54, Tryz.f54), (86, Tryz.f86), (125, Tryz.f125), (126, Tryz.f126), (87, Tryz.f87), (88, Tryz.f88), (89, Tryz.f89)]) (hints := [(20, [([1, 0, 1, 1, 1, 1], ⟨[2, 4], [], [(.nrm, [.var 2 .t_LiftState [none, none, none, none, none, none, none, none, none, none, none, none, none, none, none, none, none, none, none, none, none, none, none, none, none, none, none, none, none, none, none, none, none, none, none, none, none]])], []⟩)]), (53, [([1, 0, 1, 1, 0, 1, 0, 1], ⟨[0, 3, 6], [], [(.nrm, [.reg 13 .t_bool [none]])], []⟩), ([1, 1, 1, 0, 1, 1, 0, 1, 0, 1], ⟨[0, 3, 6], [], [(.nrm, [.reg 13 .t_bool [none]])], []⟩), ([1, 1, 1, 1, 1, 0, 1, 1, 0, 1, 0, 1], ⟨[0, 3, 6], [], [(.nrm, [.reg 13 .t_bool [none]])], []⟩), ([1, 1, 1, 1, 1, 1, 1, 0, 1, 1, 0, 1, 0, 1], ⟨[0, 3, 6], [], [(.nrm, [.reg 13 .t_bool [none]])], []⟩), ([1, 0, 1, 1, 1, 1, 0, 1, 0, 1], ⟨[0, 3, 6], [], [(.nrm, [.reg 22 .t_bool [none]])], []⟩), ([1, 1, 1, 0, 1, 1, 1, 1, 0, 1, 0, 1], ⟨[0, 3, 6], [], [(.nrm, [.reg 22 .t_bool [none]])], []⟩), ([1, 1, 1, 1, 1, 0, 1, 1, 1, 1, 0, 1, 0, 1], ⟨[0, 3, 6], [], [(.nrm, [.reg 22 .t_bool [none]])], []⟩), ([1, 0, 1, 1, 1, 1, 1, 1, 0, 1, 0, 1], ⟨[0, 3, 6], [], [(.nrm, [.reg 30 .t_bool [none]])], []⟩), ([1, 1, 1, 0, 1, 1, 1, 1, 1, 1, 0, 1, 0, 1], ⟨[0, 3, 6], [], [(.nrm, [.reg 30 .t_bool [none]])], []⟩), ([1, 1, 1, 1, 1, 0, 1, 1, 1, 1, 1, 1, 0, 1, 0, 1], ⟨[0, 3, 6], [], [(.nrm, [.reg 30 .t_bool [none]])], []⟩), ([1, 1, 1, 1, 1, 1, 1, 0, 1, 1, 1, 1, 1, 1, 0, 1, 0, 1], ⟨[0, 3, 6], [], [(.nrm, [.reg 30 .t_bool [none]])], []⟩), ([1, 0, 1, 1, 1, 1, 1, 1, 1, 1, 0, 1, 0, 1], ⟨[0, 3], [], [(.nrm, [.reg 39 .t_bool [none]])], []⟩), ([1, 1, 1, 0, 1, 1, 1, 1, 1, 1, 1, 1, 0, 1, 0, 1], ⟨[0, 3], [], [(.nrm, [.reg 39 .t_bool [none]])], []⟩), ([1, 1, 1, 1, 1, 0, 1, 1, 1, 1, 1, 1, 1, 1, 0, 1, 0, 1], ⟨[0, 3], [], [(.nrm, [.reg 39 .t_bool [none]])], []⟩)]), (85, [([0, 0, 1], ⟨[0, 1], [], [(.nrm, [.reg 24 .t_bool [none]])], []⟩), ([0, 1, 0, 1, 1], ⟨[0, 25], [.reg 26 .t_i64 [none], .var 0 .t_LiftState [none, none, none, none, none, none, none, none, none, none, none, none, none, none, none, none, none, none, none, none, none, none, none, none, none, none, none, none, none, none, none, none, none, none, none, none, none]], [(.ex 0, [.var 0 .t_LiftState [none, none, none, none, none, none, none, none, none, none, none, none, none, none, none, none, none, none, none, none, none, none, none, none, none, none, none, none, none, none, none, none, none, none, none, none, none]]), (.ret, [.reg 4 .t_i64 [none], .var 0 .t_LiftState [none, none, none, none, none, none, none, none, none, none, none, none, none, none, none, none, none, none, none, none, none, none, none, none, none, none, none, none, none, none, none, none, none, none, none, none, none]])], []⟩), ([0, 0, 1, 1, 1, 1, 1, 1, 0, 0, 1, 1, 0, 0, 1, 0, 1, 1], ⟨[0, 6, 25, 26], [], [(.nrm, [.reg 85 .t_bool [none]])], []⟩), ([1, 0, 1, 1, 1, 1, 1, 1, 0, 0, 1, 1, 0, 0, 1, 0, 1, 1], ⟨[0, 25, 26], [], [(.nrm, [.var 0 .t_LiftState [none, none, none, none, none, none, none, none, none, none, none, none, none, none, none, none, none, none, none, none, none, none, none, none, none, none, none, none, none, none, none, none, none, none, none, none, none]]), (.ret, [.reg 4 .t_i64 [none], .var 0 .t_LiftState [none, none, none, none, none, none, none, none, none, none, none, none, none, none, none, none, none, none, none, none, none, none, none, none, none, none, none, none, none, none, none, none, none, none, none, none, none]])], []⟩), ([0, 0, 1, 1, 1], ⟨[], [], [(.nrm, [.reg 106 .t_bool [none]])], []⟩)]), (54, [([0, 0, 1], ⟨[0], [], [(.nrm, [.reg 26 .t_bool [none]])], []⟩), ([1, 0, 1], ⟨[0], [], [(.nrm, [.var 0 .t_LiftState [none, none, none, none, none, none, none, none, none, none, none, none, none, none, none, none, none, none, none, none, none, none, none, none, none, none, none, none, none, none, none, none, none, none, none, none, none]])], []⟩), ([1, 0, 1, 1, 1, 1, 1], ⟨[], [], [(.nrm, [.var 0 .t_LiftState [none, none, none, none, none, none, none, none, none, none, none, none, none, none, none, none, none, none, none, none, none, none, none, none, none, none, none, none, none, none, none, none, none, none, none, none, none]])], []⟩), ([1, 0, 1, 1, 0, 1, 1, 1, 1, 1], ⟨[0], [], [(.nrm, [.reg 71 .t_bool [none]])], []⟩), ([1, 1, 1, 0, 1, 1, 1, 1, 1], ⟨[], [], [(.nrm, [.var 0 .t_LiftState [none, none, none, none, none, none, none, none, none, none, none, none, none, none, none, none, none, none, none, none, none, none, none, none, none, none, none, none, none, none, none, none, none, none, none, none, none]])], []⟩)]), (86, [([1, 0, 1, 0, 1], ⟨[], [], [(.nrm, [.var 0 .t_LiftState [none, none, none, none, none, none, none, none, none, none, none, none, none, none, none, none, none, none, none, none, none, none, none, none, none, none, none, none, none, none, none, none, none, none, none, none, none]]), (.ret, [.reg 4 .t_i64 [none], .var 0 .t_LiftState [none, none, none, none, none, none, none, none, none, none, none, none, none, none, none, none, none, none, none, none, none, none, none, none, none, none, none, none, none, none, none, none, none, none, none, none, none]])], []⟩), ([1, 1, 1, 0, 1, 0, 1], ⟨[], [], [(.nrm, [.var 0 .t_LiftState [none, none, none, none, none, none, none, none, none, none, none, none, none, none, none, none, none, none, none, none, none, none, none, none, none, none, none, none, none, none, none, none, none, none, none, none, none]]), (.ret, [.reg 4 .t_i64 [none], .var 0 .t_LiftState [none, none, none, none, none, none, none, none, none, none, none, none, none, none, none, none, none, none, none, none, none, none, none, none, none, none, none, none, none, none, none, none, none, none, none, none, none]])], []⟩), ([1, 1, 1, 1, 1, 1, 1, 1, 1, 0, 1, 0, 1], ⟨[], [], [(.nrm, [.var 0 .t_LiftState [none, none, none, none, none, none, none, none, none, none, none, none, none, none, none, none, none, none, none, none, none, none, none, none, none, none, none, none, none, none, none, none, none, none, none, none, none]]), (.ret, [.reg 4 .t_i64 [none], .var 0 .t_LiftState [none, none, none, none, none, none, none, none, none, none, none, none, none, none, none, none, none, none, none, none, none, none, none, none, none, none, none, none, none, none, none, none, none, none, none, none, none]])], []⟩)]), (125, [([0, 0, 1], ⟨[0], [], [(.nrm, [.reg 14 .t_bool [none]])], []⟩), ([0, 0, 1, 1, 1, 1, 1], ⟨[0], [], [(.nrm, [.reg 41 .t_bool [none]])], []⟩), ([1, 0, 1, 1, 1, 1, 1], ⟨[], [], [(.nrm, [.var 0 .t_LiftState [none, none, none, none, none, none, none, none, none, none, none, none, none, none, none, none, none, none, none, none, none, none, none, none, none, none, none, none, none, none, none, none, none, none, none, none, none]])], []⟩)]), (87, [([1, 0, 1, 0, 1, 1], ⟨[], [], [(.nrm, [.reg 5 .t_i64 [none], .var 0 .t_LiftState [none, none, none, none, none, none, none, none, none, none, none, none, none, none, none, none, none, none, none, none, none, none, none, none, none, none, none, none, none, none, none, none, none, none, none, none, none]]), (.ret, [.reg 4 .t_i64 [none], .var 0 .t_LiftState [none, none, none, none, none, none, none, none, none, none, none, none, none, none, none, none, none, none, none, none, none, none, none, none, none, none, none, none, none, none, none, none, none, none, none, none, none]])], []⟩), ([0, 0, 1, 0, 1, 0, 1, 0, 1, 1], ⟨[0, 3], [], [(.nrm, [.reg 25 .t_bool [none]])], []⟩), ([1, 1, 1, 0, 1, 0, 1, 1], ⟨[], [], [(.nrm, [.reg 5 .t_i64 [none], .var 0 .t_LiftState [none, none, none, none, none, none, none, none, none, none, none, none, none, none, none, none, none, none, none, none, none, none, none, none, none, none, none, none, none, none, none, none, none, none, none, none, none]])], []⟩), ([1, 1, 1, 1, 1, 0, 1, 0, 1, 1], ⟨[], [], [(.nrm, [.reg 5 .t_i64 [none], .var 0 .t_LiftState [none, none, none, none, none, none, none, none, none, none, none, none, none, none, none, none, none, none, none, none, none, none, none, none, none, none, none, none, none, none, none, none, none, none, none, none, none]])], []⟩), ([1, 1, 1, 1, 1, 1, 1, 0, 1, 0, 1, 1], ⟨[], [], [(.nrm, [.reg 5 .t_i64 [none], .var 0 .t_LiftState [none, none, none, none, none, none, none, none, none, none, none, none, none, none, none, none, none, none, none, none, none, none, none, none, none, none, none, none, none, none, none, none, none, none, none, none, none]])], []⟩)]), (88, [([1, 0, 1, 0, 1, 1], ⟨[], [], [(.nrm, [.reg 5 .t_i64 [none], .var 0 .t_LiftState [none, none, none, none, none, none, none, none, none, none, none, none, none, none, none, none, none, none, none, none, none, none, none, none, none, none, none, none, none, none, none, none, none, none, none, none, none]]), (.ret, [.reg 4 .t_i64 [none], .var 0 .t_LiftState [none, none, none, none, none, none, none, none, none, none, none, none, none, none, none, none, none, none, none, none, none, none, none, none, none, none, none, none, none, none, none, none, none, none, none, none, none]])], []⟩), ([1, 1, 1, 0, 1, 0, 1, 1], ⟨[], [], [(.nrm, [.reg 5 .t_i64 [none], .var 0 .t_LiftState [none, none, none, none, none, none, none, none, none, none, none, none, none, none, none, none, none, none, none, none, none, none, none, none, none, none, none, none, none, none, none, none, none, none, none, none, none]]), (.ret, [.reg 4 .t_i64 [none], .var 0 .t_LiftState [none, none, none, none, none, none, none, none, none, none, none, none, none, none, none, none, none, none, none, none, none, none, none, none, none, none, none, none, none, none, none, none, none, none, none, none, none]])], []⟩), ([1, 1, 1, 1, 1, 0, 1, 0, 1, 1], ⟨[], [], [(.nrm, [.reg 5 .t_i64 [none], .var 0 .t_LiftState [none, none, none, none, none, none, none, none, none, none, none, none, none, none, none, none, none, none, none, none, none, none, none, none, none, none, none, none, none, none, none, none, none, none, none, none, none]]), (.ret, [.reg 4 .t_i64 [none], .var 0 .t_LiftState [none, none, none, none, none, none, none, none, none, none, none, none, none, none, none, none, none, none, none, none, none, none, none, none, none, none, none, none, none, none, none, none, none, none, none, none, none]])], []⟩), ([1, 1, 1, 1, 1, 1, 1, 0, 1, 0, 1, 1], ⟨[], [], [(.nrm, [.reg 5 .t_i64 [none], .var 0 .t_LiftState [none, none, none, none, none, none, none, none, none, none, none, none, none, none, none, none, none, none, none, none, none, none, none, none, none, none, none, none, none, none, none, none, none, none, none, none, none]]), (.ret, [.reg 4 .t_i64 [none], .var 0 .t_LiftState [none, none, none, none, none, none, none, none, none, none, none, none, none, none, none, none, none, none, none, none, none, none, none, none, none, none, none, none, none, none, none, none, none, none, none, none, none]])], []⟩), ([1, 1, 1, 1, 1, 1, 1, 1, 1, 0, 1, 0, 1, 1], ⟨[], [], [(.nrm, [.reg 5 .t_i64 [none], .var 0 .t_LiftState [none, none, none, none, none, none, none, none, none, none, none, none, none, none, none, none, none, none, none, none, none, none, none, none, none, none, none, none, none, none, none, none, none, none, none, none, none]]), (.ret, [.reg 4 .t_i64 [none], .var 0 .t_LiftState [none, none, none, none, none, none, none, none, none, none, none, none, none, none, none, none, none, none, none, none, none, none, none, none, none, none, none, none, none, none, none, none, none, none, none, none, none]])], []⟩), ([0, 0, 0, 1, 1, 1, 1, 1, 1, 1, 1, 1, 0, 1, 0, 1, 1], ⟨[0, 3], [], [(.nrm, [.reg 79 .t_bool [none]])], []⟩)]), (89, [([1, 0, 1, 0, 1, 1], ⟨[], [], [(.nrm, [.reg 5 .t_i64 [none], .var 0 .t_LiftState [none, none, none, none, none, none, none, none, none, none, none, none, none, none, none, none, none, none, none, none, none, none, none, none, none, none, none, none, none, none, none, none, none, none, none, none, none]]), (.ret, [.reg 4 .t_i64 [none], .var 0 .t_LiftState [none, none, none, none, none, none, none, none, none, none, none, none, none, none, none, none, none, none, none, none, none, none, none, none, none, none, none, none, none, none, none, none, none, none, none, none, none]])], []⟩), ([1, 1, 1, 0, 1, 0, 1, 1], ⟨[], [], [(.nrm, [.reg 5 .t_i64 [none], .var 0 .t_LiftState [none, none, none, none, none, none, none, none, none, none, none, none, none, none, none, none, none, none, none, none, none, none, none, none, none, none, none, none, none, none, none, none, none, none, none, none, none]]), (.ret, [.reg 4 .t_i64 [none], .var 0 .t_LiftState [none, none, none, none, none, none, none, none, none, none, none, none, none, none, none, none, none, none, none, none, none, none, none, none, none, none, none, none, none, none, none, none, none, none, none, none, none]])], []⟩), ([1, 1, 1, 1, 1, 0, 1, 0, 1, 1], ⟨[], [], [(.nrm, [.reg 5 .t_i64 [none], .var 0 .t_LiftState [none, none, none, none, none, none, none, none, none, none, none, none, none, none, none, none, none, none, none, none, none, none, none, none, none, none, none, none, none, none, none, none, none, none, none, none, none]]), (.ret, [.reg 4 .t_i64 [none], .var 0 .t_LiftState [none, none, none, none, none, none, none, none, none, none, none, none, none, none, none, none, none, none, none, none, none, none, none, none, none, none, none, none, none, none, none, none, none, none, none, none, none]])], []⟩), ([1, 1, 1, 1, 1, 1, 1, 0, 1, 0, 1, 1], ⟨[], [], [(.nrm, [.reg 5 .t_i64 [none], .var 0 .t_LiftState [none, none, none, none, none, none, none, none, none, none, none, none, none, none, none, none, none, none, none, none, none, none, none, none, none, none, none, none, none, none, none, none, none, none, none, none, none]]), (.ret, [.reg 4 .t_i64 [none], .var 0 .t_LiftState [none, none, none, none, none, none, none, none, none, none, none, none, none, none, none, none, none, none, none, none, none, none, none, none, none, none, none, none, none, none, none, none, none, none, none, none, none]])], []⟩), ([1, 0, 1, 1, 0, 1, 1, 1, 1, 1, 1, 1, 0, 1, 0, 1, 1], ⟨[], [], [(.nrm, [.reg 5 .t_i64 [none], .var 0 .t_LiftState [none, none, none, none, none, none, none, none, none, none, none, none, none, none, none, none, none, none, none, none, none, none, none, none, none, none, none, none, none, none, none, none, none, none, none, none, none]]), (.ret, [.reg 4 .t_i64 [none], .var 0 .t_LiftState [none, none, none, none, none, none, none, none, none, none, none, none, none, none, none, none, none, none, none, none, none, none, none, none, none, none, none, none, none, none, none, none, none, none, none, none, none]])], []⟩)])]) mixed (.cons (d_lift_Right N) (.cons (d_lift_clone N) (.cons (d_drive_Step N) (.cons (d_rope_Move N) (.cons (d_queue_Seat N) (.cons (d_rope_Load N) (.cons (d_chain_Expire N) (.cons (d_rope_People N) (.cons (d_drive_Halt N) (.cons (d_lift_May N) (.cons (d_drive_Emergency N) (.cons (d_rope_Take N) (.cons (d_drive_Start N) (.cons (d_drive_Reset N) (.cons (d_chain_Break N) (.cons (d_chain_Make N) (.cons (d_chain_Clear N) (.cons (d_chain_Take N) (.cons (d_chain_Bypass N) (.cons (d_brake_Test N) (.cons (d_weather_Update N) (.cons (d_inspect_Sign N) (.cons (d_queue_Join N) (.cons (d_queue_Single N) .nil)))))))))))))))))))))))) (.cons Tryz.func53 (.cons Tryz.func85 (.cons Tryz.func124 (.cons Tryz.func54 (.cons Tryz.func86 (.cons Tryz.func125 (.cons Tryz.func126 (.cons Tryz.func87 (.cons Tryz.func88 (.cons Tryz.func89 .nil)))))))))) Tryz.func20 (by kernel_rfl) (by kernel_rfl)

def l20_refuses (N : Nat) (x0 : LiftState) (x1 x2 x3 : Int) : Option Bool :=
 
  (lift_Do N x0 (LiftEvent.mk x1 x2 (0 : Int) (0 : Int))).bind fun (r4 : LiftState × Int) => some (r4.snd == x3)
theorem d_l20_refuses (N : Nat) : DenF Tryz.prog 24 ⟨[.t_LiftState, .t_i64, .t_i64, .t_i64], [.t_bool], [[none]], l20_refuses N⟩ :=
  den_of (N := N) (gam := [(20, ⟨[.t_LiftState, .t_LiftEvent], [.t_LiftState, .t_i64], [[none, none, none, none, none, none, none, none, none, none, none, none, none, none, none, none, none, none, none, none, none, none, none, none, none, none, none, none, none, none, none, none, none, none, none, none, none], [none]], lift_Do N⟩)]) (txt := []) (hints := []) mixed (.cons (d_lift_Do N) .nil) .nil Tryz.func24 (by kernel_rfl) (by kernel_rfl)

def l20_fine (N : Nat) (x0 : LiftState) (x1 x2 x3 x4 : Int) : Option (LiftState × Bool) :=
 
  (lift_Do N x0 (LiftEvent.mk x1 x2 x3 x4)).bind fun (r5 : LiftState × Int) => some (r5.fst, r5.snd == (0 : Int))
theorem d_l20_fine (N : Nat) : DenF Tryz.prog 23 ⟨[.t_LiftState, .t_i64, .t_i64, .t_i64, .t_i64], [.t_LiftState, .t_bool], [[none, none, none, none, none, none, none, none, none, none, none, none, none, none, none, none, none, none, none, none, none, none, none, none, none, none, none, none, none, none, none, none, none, none, none, none, none], [none]], l20_fine N⟩ :=
  den_of (N := N) (gam := [(20, ⟨[.t_LiftState, .t_LiftEvent], [.t_LiftState, .t_i64], [[none, none, none, none, none, none, none, none, none, none, none, none, none, none, none, none, none, none, none, none, none, none, none, none, none, none, none, none, none, none, none, none, none, none, none, none, none], [none]], lift_Do N⟩)]) (txt := []) (hints := []) mixed (.cons (d_lift_Do N) .nil) .nil Tryz.func23 (by kernel_rfl) (by kernel_rfl)

def l20_opened (N : Nat) : Option (LiftState × Bool) :=
 
  (l20_example N).bind fun (r0 : Make) =>
    (l20_made N r0).bind fun (r1 : LiftState × Int) =>
      (bif r1.snd != (0 : Int) then some true
          else
            (lift_Load N r1.fst).bind fun (r2 : Int) =>
              bif r2 != (5000 : Int) then some true
              else (l20_refuses N r1.fst (2 : Int) (0 : Int) (14 : Int)).bind fun (r3 : Bool) => some !r3).bind
        fun (r4 : Bool) =>
        bif r4 then some (r1.fst, false)
        else
          (l20_fine N r1.fst (13 : Int) (1 : Int) (20000 : Int) (0 : Int)).bind fun (r5 : LiftState × Bool) =>
            (l20_fine N r5.fst (13 : Int) (2 : Int) (20000 : Int) (0 : Int)).bind fun (r6 : LiftState × Bool) =>
              (bif !r5.snd then some true
                  else
                    bif !r6.snd then some true
                    else (l20_refuses N r6.fst (2 : Int) (0 : Int) (11 : Int)).bind fun (r7 : Bool) => some !r7).bind
                fun (r8 : Bool) =>
                bif r8 then some (r6.fst, false)
                else
                  (l20_fine N r6.fst (15 : Int) (1 : Int) (0 : Int) (7 : Int)).bind fun (r9 : LiftState × Bool) =>
                    (l20_fine N r9.fst (2 : Int) (0 : Int) (0 : Int) (0 : Int)).bind fun (r10 : LiftState × Bool) =>
                      (bif r9.snd then some (r10.snd, r10.fst) else some (false, r10.fst)).bind
                        fun (r11 : Bool × LiftState) => some (r11.snd, r11.fst)
theorem d_l20_opened (N : Nat) : DenF Tryz.prog 22 ⟨[], [.t_LiftState, .t_bool], [[none, none, none, none, none, none, none, none, none, none, none, none, none, none, none, none, none, none, none, none, none, none, none, none, none, none, none, none, none, none, none, none, none, none, none, none, none], [none]], l20_opened N⟩ :=
  den_of (N := N) (gam := [(60, ⟨[], [.t_Make], [[none, none, none, none, none, none, none, none, none, none, none, none, some 89, some 92, none, none, none, none, none, none, some 3, none, some 97]], l20_example N⟩), (8, ⟨[.t_Make], [.t_LiftState, .t_i64], [[none, none, none, none, none, none, none, none, none, none, none, none, none, none, none, none, some 89, some 92, none, none, none, none, none, none, none, none, none, some 3, some 3, none, some 3, none, some 97, none, none, none, none], [none]], l20_made N⟩), (16, ⟨[.t_LiftState], [.t_i64], [[none]], lift_Load N⟩), (24, ⟨[.t_LiftState, .t_i64, .t_i64, .t_i64], [.t_bool], [[none]], l20_refuses N⟩), (23, ⟨[.t_LiftState, .t_i64, .t_i64, .t_i64, .t_i64], [.t_LiftState, .t_bool], [[none, none, none, none, none, none, none, none, none, none, none, none, none, none, none, none, none, none, none, none, none, none, none, none, none, none, none, none, none, none, none, none, none, none, none, none, none], [none]], l20_fine N⟩)]) (txt := []) (hints := [(22, [([0, 0, 1, 1], ⟨[0, 2], [], [(.nrm, [.reg 24 .t_bool [none]])], []⟩), ([0, 0, 1, 1, 1, 1, 1], ⟨[0, 2], [], [(.nrm, [.reg 46 .t_bool [none]])], []⟩), ([0, 1, 1, 1, 1, 1, 1, 1, 1], ⟨[0], [], [(.nrm, [.reg 1 .t_bool [none], .var 0 .t_LiftState [none, none, none, none, none, none, none, none, none, none, none, none, none, none, none, none, none, none, none, none, none, none, none, none, none, none, none, none, none, none, none, none, none, none, none, none, none]])], []⟩)])]) mixed (.cons (d_l20_example N) (.cons (d_l20_made N) (.cons (d_lift_Load N) (.cons (d_l20_refuses N) (.cons (d_l20_fine N) .nil))))) .nil Tryz.func22 (by kernel_rfl) (by kernel_rfl)

def lift_Safe (N : Nat) (x0 : LiftState) : Option Bool :=
 
  (lift_Right N x0).bind fun (r1 : Bool) =>
    bif !r1 then some false
    else
      bif x0.Drive.State != (1 : Int) then some true
      else
        ((lift_May N x0).bind fun (r2 : Int) =>
              bif r2 != (0 : Int) then some true else some (x0.Mode == (0 : Int))).bind
          fun (r3 : Bool) =>
          bif r3 then some false
          else
            (bif x0.Mode != (2 : Int) then some true else some (decide (x0.Drive.Target ≤ (1000 : Int)))).bind
              fun (r4 : Bool) => some r4
theorem d_lift_Safe (N : Nat) : DenF Tryz.prog 14 ⟨[.t_LiftState], [.t_bool], [[none]], lift_Safe N⟩ :=
  den_of (N := N) (gam := [(11, ⟨[.t_LiftState], [.t_bool], [[none]], lift_Right N⟩), (18, ⟨[.t_LiftState], [.t_i64], [[none]], lift_May N⟩)]) (txt := []) (hints := [(14, [([0, 0, 1, 1, 1], ⟨[1], [], [(.nrm, [.reg 17 .t_bool [none]])], []⟩), ([0, 1, 1, 1, 1], ⟨[], [], [(.nrm, [.reg 2 .t_bool [none]])], []⟩)])]) mixed (.cons (d_lift_Right N) (.cons (d_lift_May N) .nil)) .nil Tryz.func14 (by kernel_rfl) (by kernel_rfl)

def l20_alive (N : Nat) : Option Bool :=
 
  (l20_opened N).bind fun (r0 : LiftState × Bool) =>
    bif !r0.snd then some false
    else
      (l20_fine N r0.fst (16 : Int) (3 : Int) (0 : Int) (0 : Int)).bind fun (r1 : LiftState × Bool) =>
        (l20_fine N r1.fst (4 : Int) (5000 : Int) (0 : Int) (0 : Int)).bind fun (r2 : LiftState × Bool) =>
          (l20_fine N r2.fst (1 : Int) (10 : Int) (0 : Int) (0 : Int)).bind fun (r3 : LiftState × Bool) =>
            (bif !r1.snd then some true
                else
                  bif !r2.snd then some true
                  else
                    bif !r3.snd then some true
                    else
                      bif r3.fst.Drive.Speed != (5000 : Int) then some true
                      else some (r3.fst.Drive.Moved != (27500 : Int))).bind
              fun (r4 : Bool) =>
              bif r4 then some false
              else
                (l20_fine N r3.fst (1 : Int) (5 : Int) (0 : Int) (0 : Int)).bind fun (r5 : LiftState × Bool) =>
                  (bif !r5.snd then some true
                      else
                        bif r5.fst.Drive.Moved != (52500 : Int) then some true
                        else
                          bif r5.fst.Up != (3 : Int) then some true
                          else
                            bif (↑r5.fst.Queue.Groups.length : Int) != (0 : Int) then some true
                            else (lift_Safe N r5.fst).bind fun (r6 : Bool) => some !r6).bind
                    fun (r7 : Bool) =>
                    bif r7 then some false
                    else
                      (l20_fine N r5.fst (8 : Int) (2 : Int) (0 : Int) (0 : Int)).bind fun (r8 : LiftState × Bool) =>
                        (bif !r8.snd then some true else some (r8.fst.Drive.State != (3 : Int))).bind fun (r9 : Bool) =>
                          bif r9 then some false
                          else
                            (l20_fine N r8.fst (1 : Int) (5 : Int) (0 : Int) (0 : Int)).bind
                              fun (r10 : LiftState × Bool) =>
                              (bif !r10.snd then some true
                                  else
                                    bif r10.fst.Drive.Speed != (0 : Int) then some true
                                    else
                                      bif r10.fst.Drive.Moved != (62500 : Int) then some true
                                      else
                                        (l20_refuses N r10.fst (4 : Int) (5000 : Int) (13 : Int)).bind
                                          fun (r11 : Bool) => some !r11).bind
                                fun (r12 : Bool) =>
                                bif r12 then some false
                                else
                                  (l20_fine N r10.fst (9 : Int) (2 : Int) (0 : Int) (0 : Int)).bind
                                    fun (r13 : LiftState × Bool) =>
                                    (l20_fine N r13.fst (10 : Int) (2 : Int) (0 : Int) (7 : Int)).bind
                                      fun (r14 : LiftState × Bool) =>
                                      (l20_fine N r14.fst (7 : Int) (0 : Int) (0 : Int) (0 : Int)).bind
                                        fun (r15 : LiftState × Bool) =>
                                        (l20_fine N r15.fst (4 : Int) (1000 : Int) (0 : Int) (0 : Int)).bind
                                          fun (r16 : LiftState × Bool) =>
                                          (bif !r13.snd then some true
                                              else
                                                bif !r14.snd then some true
                                                else bif !r15.snd then some true else some !r16.snd).bind
                                            fun (r17 : Bool) =>
                                            bif r17 then some false
                                            else
                                              (l20_fine N r16.fst (3 : Int) (0 : Int) (0 : Int) (0 : Int)).bind
                                                fun (r18 : LiftState × Bool) =>
                                                (l20_fine N r18.fst (1 : Int) (600 : Int) (0 : Int) (0 : Int)).bind
                                                  fun (r19 : LiftState × Bool) =>
                                                  (bif r18.snd then
                                                        bif r19.snd then
                                                          bif r19.fst.Off == (3 : Int) then
                                                            some (r19.fst.Mode == (0 : Int))
                                                          else some false
                                                        else some false
                                                      else some false).bind
                                                    fun (r20 : Bool) => some r20
theorem d_l20_alive (N : Nat) : DenF Tryz.prog 6 ⟨[], [.t_bool], [[none]], l20_alive N⟩ :=
  den_of (N := N) (gam := [(22, ⟨[], [.t_LiftState, .t_bool], [[none, none, none, none, none, none, none, none, none, none, none, none, none, none, none, none, none, none, none, none, none, none, none, none, none, none, none, none, none, none, none, none, none, none, none, none, none], [none]], l20_opened N⟩), (23, ⟨[.t_LiftState, .t_i64, .t_i64, .t_i64, .t_i64], [.t_LiftState, .t_bool], [[none, none, none, none, none, none, none, none, none, none, none, none, none, none, none, none, none, none, none, none, none, none, none, none, none, none, none, none, none, none, none, none, none, none, none, none, none], [none]], l20_fine N⟩), (14, ⟨[.t_LiftState], [.t_bool], [[none]], lift_Safe N⟩), (24, ⟨[.t_LiftState, .t_i64, .t_i64, .t_i64], [.t_bool], [[none]], l20_refuses N⟩)]) (txt := []) (hints := [(6, [([0, 0, 1, 1, 1, 1, 1, 1], ⟨[1], [], [(.nrm, [.reg 49 .t_bool [none]])], []⟩), ([0, 0, 1, 1, 1, 1, 1, 1, 1, 1], ⟨[1], [], [(.nrm, [.reg 79 .t_bool [none]])], []⟩), ([0, 0, 1, 1, 1, 1, 1, 1, 1, 1, 1, 1], ⟨[1], [], [(.nrm, [.reg 92 .t_bool [none]])], []⟩), ([0, 0, 1, 1, 1, 1, 1, 1, 1, 1, 1, 1, 1, 1], ⟨[1], [], [(.nrm, [.reg 116 .t_bool [none]])], []⟩), ([0, 0, 1, 1, 1, 1, 1, 1, 1, 1, 1, 1, 1, 1, 1, 1, 1, 1, 1], ⟨[1], [], [(.nrm, [.reg 150 .t_bool [none]])], []⟩), ([0, 1, 1, 1, 1, 1, 1, 1, 1, 1, 1, 1, 1, 1, 1, 1, 1, 1, 1, 1, 1], ⟨[], [], [(.nrm, [.reg 0 .t_bool [none]])], []⟩)])]) mixed (.cons (d_l20_opened N) (.cons (d_l20_fine N) (.cons (d_lift_Safe N) (.cons (d_l20_refuses N) .nil)))) .nil Tryz.func6 (by kernel_rfl) (by kernel_rfl)
end Go.Proofs.YthjmbcnohgaihaaGreat
