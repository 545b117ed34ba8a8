/- Written by a program (gen.py, asm.py): what each function computes, as a plain function, and that its text computes it. No condition. -/
import Derived.Test.YtkhkblihdabnoaaGreatFn3
import Derived.Test.YtkhkblihdabnoaaGreatCmo
namespace Go.Proofs.YtkhkblihdabnoaaGreat
open Go.Cm Go.Proofs
set_option linter.unusedVariables false
set_option maxRecDepth 100000

def snowpack_Right (N : Nat) (x0 : Pack) : Option Bool :=
 
  ((snowpack_within N x0.Natural (0 : Int) (20000 : Int)).bind fun (r1 : Bool) =>
        bif r1 then
          (snowpack_within N x0.Machine (0 : Int) (20000 : Int)).bind fun (r2 : Bool) =>
            bif r2 then (snowpack_within N x0.Density (50 : Int) (900 : Int)).bind fun (r3 : Bool) => some r3
            else some false
        else some false).bind
    fun (r4 : Bool) => some r4
theorem d_snowpack_Right (N : Nat) : DenF Tryz.prog 28 ⟨[.t_Pack], [.t_bool], [[none]], snowpack_Right N⟩ :=
  den_of (N := N) (gam := [(74, ⟨[.t_i64, .t_i64, .t_i64], [.t_bool], [[none]], snowpack_within N⟩)]) (txt := []) (hints := [(28, [([0, 1], ⟨[], [], [(.nrm, [.reg 2 .t_bool [none]])], []⟩)])]) mixed (.cons (d_snowpack_within N) .nil) .nil Tryz.func28 (by kernel_rfl) (by kernel_rfl)

def snowmaking_upTo (N : Nat) (x0 x1 : Int) : Option Bool :=
 
  (bif decide (x0 ≥ (0 : Int)) then some (decide (x0 ≤ x1)) else some false).bind fun (r2 : Bool) => some r2
theorem d_snowmaking_upTo (N : Nat) : DenF Tryz.prog 33 ⟨[.t_i64, .t_i64], [.t_bool], [[none]], snowmaking_upTo N⟩ :=
  den_of (N := N) (gam := []) (txt := []) (hints := [(33, [([0, 1], ⟨[], [], [(.nrm, [.reg 4 .t_bool [none]])], []⟩)])]) mixed .nil .nil Tryz.func33 (by kernel_rfl) (by kernel_rfl)

def snowmaking_counters (N : Nat) (x0 : SnowSystem) : Option Bool :=
 
  ((snowmaking_upTo N x0.Water (1125899906842624 : Int)).bind fun (r1 : Bool) =>
        bif r1 then
          (snowmaking_upTo N x0.Lost (1125899906842624 : Int)).bind fun (r2 : Bool) =>
            bif r2 then
              (snowmaking_upTo N x0.Energy (1125899906842624 : Int)).bind fun (r3 : Bool) =>
                bif r3 then (snowmaking_upTo N x0.Inflow (1125899906842624 : Int)).bind fun (r4 : Bool) => some r4
                else some false
            else some false
        else some false).bind
    fun (r5 : Bool) => some r5
theorem d_snowmaking_counters (N : Nat) : DenF Tryz.prog 34 ⟨[.t_SnowSystem], [.t_bool], [[none]], snowmaking_counters N⟩ :=
  den_of (N := N) (gam := [(33, ⟨[.t_i64, .t_i64], [.t_bool], [[none]], snowmaking_upTo N⟩)]) (txt := []) (hints := [(34, [([0, 1], ⟨[], [], [(.nrm, [.reg 2 .t_bool [none]])], []⟩)])]) mixed (.cons (d_snowmaking_upTo N) .nil) .nil Tryz.func34 (by kernel_rfl) (by kernel_rfl)

def snowmaking_Right (N : Nat) (x0 : SnowSystem) : Option Int :=
 
  (pond_Right N x0.Ponds).bind fun (r1 : Int) =>
    bif r1 != (0 : Int) then some r1
    else
      (pump_Right N x0.Pumps).bind fun (r2 : Int) =>
        bif r2 != (0 : Int) then some r2
        else
          (pipe_Right N x0.Pipes).bind fun (r3 : Int) =>
            bif r3 != (0 : Int) then some r3
            else
              (gun_Right N x0.Kinds x0.Guns).bind fun (r4 : Int) =>
                bif r4 != (0 : Int) then some r4
                else
                  bif decide ((↑x0.Packs.length : Int) > (64 : Int)) then some (4 : Int)
                  else
                    (whileF N
                          (fun (p5 : Int) =>
                            bif decide (p5 < (↑x0.Packs.length : Int)) then
                              bif decide ((0 : Int) ≤ p5) && decide (p5 < (↑x0.Packs.length : Int)) then
                                (bif decide ((x0.Packs.getD p5.toNat z_RunPack).Run < (1 : Int)) then some true
                                    else
                                      bif decide ((x0.Packs.getD p5.toNat z_RunPack).Run > (9999 : Int)) then some true
                                      else
                                        bif decide ((x0.Packs.getD p5.toNat z_RunPack).Area < (1 : Int)) then some true
                                        else
                                          bif decide ((x0.Packs.getD p5.toNat z_RunPack).Area > (10000000 : Int)) then
                                            some true
                                          else
                                            (snowpack_Right N (x0.Packs.getD p5.toNat z_RunPack).Pack).bind
                                              fun (r6 : Bool) => some !r6).bind
                                  fun (r7 : Bool) =>
                                  bif r7 then some (Sum.inr (Sum.inr (2 : Int)))
                                  else
                                    (bif decide (p5 > (0 : Int)) then
                                          bif
                                              decide ((0 : Int) ≤ IntKind.i64.wrap (p5 - (1 : Int))) &&
                                                decide
                                                  (IntKind.i64.wrap (p5 - (1 : Int)) < (↑x0.Packs.length : Int)) then
                                            some
                                              (decide
                                                ((x0.Packs.getD p5.toNat z_RunPack).Run ≤
                                                  (x0.Packs.getD (IntKind.i64.wrap (p5 - (1 : Int))).toNat
                                                      z_RunPack).Run))
                                          else none
                                        else some false).bind
                                      fun (r8 : Bool) =>
                                      bif r8 then some (Sum.inr (Sum.inr (11 : Int)))
                                      else some (Sum.inl (IntKind.i64.wrap (p5 + (1 : Int))))
                              else none
                            else some (Sum.inr (Sum.inl ())))
                          (0 : Int)).bind
                      fun (r9 : Unit ⊕ Int) =>
                      Sum.elim
                        (fun (p10 : Unit) =>
                          (whileF N
                                (fun (p11 : Int) =>
                                  bif decide (p11 < (↑x0.Guns.length : Int)) then
                                    bif decide ((0 : Int) ≤ p11) && decide (p11 < (↑x0.Guns.length : Int)) then
                                      (whileF N
                                            (fun (p12 : Int) =>
                                              bif decide (p12 < (↑x0.Packs.length : Int)) then
                                                bif
                                                    decide ((0 : Int) ≤ p12) &&
                                                      decide (p12 < (↑x0.Packs.length : Int)) then
                                                  bif
                                                      (x0.Packs.getD p12.toNat z_RunPack).Run ==
                                                        (x0.Guns.getD p11.toNat z_Gun).Run then
                                                    some (Sum.inr (Sum.inr p12))
                                                  else some (Sum.inl (IntKind.i64.wrap (p12 + (1 : Int))))
                                                else none
                                              else some (Sum.inr (Sum.inl ())))
                                            (0 : Int)).bind
                                        fun (r13 : Unit ⊕ Int) =>
                                        Sum.elim (fun (p14 : Unit) => some (Sum.inr (Sum.inr (8 : Int))))
                                          (fun (p15 : Int) =>
                                            (bif !decide (p15 ≥ (0 : Int)) then some true
                                                else
                                                  (whileF N
                                                        (fun (p16 : Int) =>
                                                          bif decide (p16 < (↑x0.Pipes.length : Int)) then
                                                            bif
                                                                decide ((0 : Int) ≤ p16) &&
                                                                  decide (p16 < (↑x0.Pipes.length : Int)) then
                                                              bif
                                                                  (x0.Pipes.getD p16.toNat z_Pipe).To ==
                                                                    (x0.Guns.getD p11.toNat z_Gun).Node then
                                                                some (Sum.inr (Sum.inr p16))
                                                              else some (Sum.inl (IntKind.i64.wrap (p16 + (1 : Int))))
                                                            else none
                                                          else some (Sum.inr (Sum.inl ())))
                                                        (0 : Int)).bind
                                                    fun (r17 : Unit ⊕ Int) =>
                                                    Sum.elim (fun (p18 : Unit) => some true)
                                                      (fun (p19 : Int) => some !decide (p19 ≥ (0 : Int))) r17).bind
                                              fun (r20 : Bool) =>
                                              bif r20 then some (Sum.inr (Sum.inr (8 : Int)))
                                              else some (Sum.inl (IntKind.i64.wrap (p11 + (1 : Int)))))
                                          r13
                                    else none
                                  else some (Sum.inr (Sum.inl ())))
                                (0 : Int)).bind
                            fun (r21 : Unit ⊕ Int) =>
                            Sum.elim
                              (fun (p22 : Unit) =>
                                ((snowmaking_upTo N x0.Pressure (10000000 : Int)).bind fun (r23 : Bool) =>
                                      bif !r23 then some true
                                      else
                                        (snowmaking_upTo N x0.Limit (1000000000 : Int)).bind fun (r24 : Bool) =>
                                          bif !r24 then some true
                                          else
                                            (snowmaking_upTo N x0.Time (20000000 : Int)).bind fun (r25 : Bool) =>
                                              bif !r25 then some true
                                              else (snowmaking_counters N x0).bind fun (r26 : Bool) => some !r26).bind
                                  fun (r27 : Bool) => bif r27 then some (2 : Int) else some (0 : Int))
                              (fun (p28 : Int) => some p28) r21)
                        (fun (p29 : Int) => some p29) r9
theorem d_snowmaking_Right (N : Nat) : DenF Tryz.prog 8 ⟨[.t_SnowSystem], [.t_i64], [[none]], snowmaking_Right N⟩ :=
  den_of (N := N) (gam := [(24, ⟨[.l_Pond], [.t_i64], [[none]], pond_Right N⟩), (25, ⟨[.l_Pump], [.t_i64], [[none]], pump_Right N⟩), (26, ⟨[.l_Pipe], [.t_i64], [[none]], pipe_Right N⟩), (27, ⟨[.l_GunKind, .l_Gun], [.t_i64], [[none]], gun_Right N⟩), (28, ⟨[.t_Pack], [.t_bool], [[none]], snowpack_Right N⟩), (33, ⟨[.t_i64, .t_i64], [.t_bool], [[none]], snowmaking_upTo N⟩), (34, ⟨[.t_SnowSystem], [.t_bool], [[none]], snowmaking_counters N⟩)]) (txt := [(30, Tryz.f30), (29, Tryz.f29), (75, Tryz.f75), (32, Tryz.f32), (31, Tryz.f31), (76, Tryz.f76)]) (hints := [(8, [([0, 1, 0, 1, 1, 1, 1, 1, 1], ⟨[1, 43, 44], [.reg 45 .t_i64 [none]], [(.ex 0, []), (.ret, [.reg 2 .t_i64 [none]])], []⟩), ([0, 0, 1, 0, 0, 1, 1, 0, 0, 1, 0, 1, 1, 1, 1, 1, 1], ⟨[1, 7, 8, 43, 44, 45], [], [(.nrm, [.reg 73 .t_bool [none]])], []⟩), ([0, 1, 1, 0, 0, 1, 1, 0, 0, 1, 0, 1, 1, 1, 1, 1, 1], ⟨[1, 43, 44, 45], [], [(.nrm, [.reg 87 .t_bool [none]])], []⟩), ([0, 1, 0, 1, 1, 1, 1, 1, 1, 1], ⟨[1, 90, 91], [.reg 92 .t_i64 [none]], [(.ex 2, []), (.ret, [.reg 2 .t_i64 [none]])], []⟩), ([0, 1, 1, 0, 0, 1, 1, 0, 0, 1, 0, 1, 1, 1, 1, 1, 1, 1], ⟨[1, 90, 91, 92], [], [(.nrm, [.reg 108 .t_bool [none]])], []⟩), ([0, 0, 1, 1, 1, 1, 1, 1, 1, 1], ⟨[], [], [(.nrm, [.reg 130 .t_bool [none]])], []⟩)]), (75, [([0, 1, 0, 1], ⟨[0, 1, 7], [.reg 8 .t_i64 [none]], [(.ex 0, []), (.ret, [.reg 4 .t_i64 [none]])], []⟩)]), (76, [([0, 1, 0, 1], ⟨[0, 1, 7], [.reg 8 .t_i64 [none]], [(.ex 0, []), (.ret, [.reg 4 .t_i64 [none]])], []⟩)])]) mixed (.cons (d_pond_Right N) (.cons (d_pump_Right N) (.cons (d_pipe_Right N) (.cons (d_gun_Right N) (.cons (d_snowpack_Right N) (.cons (d_snowmaking_upTo N) (.cons (d_snowmaking_counters N) .nil))))))) (.cons Tryz.func30 (.cons Tryz.func29 (.cons Tryz.func75 (.cons Tryz.func32 (.cons Tryz.func31 (.cons Tryz.func76 .nil)))))) Tryz.func8 (by kernel_rfl) (by kernel_rfl)

def pond_Spare (N : Nat) (x0 : List Pond) : Option Int :=
 
  (whileF N
        (fun (p1 : Int × Int) =>
          bif decide (p1.snd < (↑x0.length : Int)) then
            bif decide ((0 : Int) ≤ p1.snd) && decide (p1.snd < (↑x0.length : Int)) then
              some
                (Sum.inl
                  (IntKind.i64.wrap
                      (p1.fst +
                        IntKind.i64.wrap
                          ((x0.getD (Int.toNat p1.snd) z_Pond).Volume - (x0.getD (Int.toNat p1.snd) z_Pond).Least)),
                    IntKind.i64.wrap (p1.snd + (1 : Int))))
            else none
          else some (Sum.inr p1.fst))
        ((0 : Int), (0 : Int))).bind
    fun (r2 : Int) => some r2
theorem d_pond_Spare (N : Nat) : DenF Tryz.prog 66 ⟨[.l_Pond], [.t_i64], [[none]], pond_Spare N⟩ :=
  den_of (N := N) (gam := []) (txt := []) (hints := [(66, [([0, 1, 0, 1, 1], ⟨[6, 7], [.reg 3 .t_i64 [none], .reg 8 .t_i64 [none]], [(.ex 0, [.reg 3 .t_i64 [none]])], []⟩)])]) mixed .nil .nil Tryz.func66 (by kernel_rfl) (by kernel_rfl)

def split_plus (N : Nat) (x0 x1 : Int) : Option (Int × Bool) :=
 
  (bif decide (x1 > IntKind.i64.wrap ((1099511627776 : Int) - x0)) then some true
      else some (decide (x1 < IntKind.i64.wrap ((-1099511627776 : Int) - x0)))).bind
    fun (r2 : Bool) => bif r2 then some ((0 : Int), false) else some (IntKind.i64.wrap (x0 + x1), true)
theorem d_split_plus (N : Nat) : DenF Tryz.prog 152 ⟨[.t_i64, .t_i64], [.t_i64, .t_bool], [[none], [none]], split_plus N⟩ :=
  den_of (N := N) (gam := []) (txt := []) (hints := [(152, [([0, 0, 1], ⟨[0, 1], [], [(.nrm, [.reg 15 .t_bool [none]])], []⟩)])]) mixed .nil .nil Tryz.func152 (by kernel_rfl) (by kernel_rfl)

def split_check_1 (N : Nat) (x0 : Int) : Option Int :=
  some x0
theorem d_split_check_1 (N : Nat) : DenF Tryz.prog 147 ⟨[.t_i64], [.t_i64], [[none]], split_check_1 N⟩ :=
  den_of (N := N) (gam := []) (txt := []) (hints := []) mixed .nil .nil Tryz.func147 (by kernel_rfl) (by kernel_rfl)

def split_check (N : Nat) (x0 : Int) (x1 : List Int) : Option (Int × Int) :=
 
  bif decide ((↑x1.length : Int) > (64 : Int)) then some ((0 : Int), (4 : Int))
  else
    (bif decide (x0 < (0 : Int)) then some true else some (decide (x0 > (1099511627776 : Int)))).bind fun (r2 : Bool) =>
      bif r2 then some ((0 : Int), (2 : Int))
      else
        (whileF N
              (fun (p3 : Int) =>
                bif decide (p3 < (↑x1.length : Int)) then
                  bif decide ((0 : Int) ≤ p3) && decide (p3 < (↑x1.length : Int)) then
                    (bif decide (x1.getD p3.toNat (0 : Int) < (0 : Int)) then some true
                        else some (decide (x1.getD p3.toNat (0 : Int) > (1000000000 : Int)))).bind
                      fun (r4 : Bool) =>
                      bif r4 then some (Sum.inr (Sum.inr ((0 : Int), (2 : Int))))
                      else some (Sum.inl (IntKind.i64.wrap (p3 + (1 : Int))))
                  else none
                else some (Sum.inr (Sum.inl ())))
              (0 : Int)).bind
          fun (r5 : Unit ⊕ Int × Int) =>
          Sum.elim
            (fun (p6 : Unit) =>
              (whileF N
                    (fun (p7 : Int × Int) =>
                      bif decide (p7.snd < (↑x1.length : Int)) then
                        bif decide ((0 : Int) ≤ p7.snd) && decide (p7.snd < (↑x1.length : Int)) then
                          (split_check_1 N (x1.getD (Int.toNat p7.snd) (0 : Int))).bind fun (r8 : Int) =>
                            (split_plus N p7.fst r8).bind fun (r9 : Int × Bool) =>
                              bif !r9.snd then some (Sum.inr (Sum.inr ((0 : Int), false)))
                              else some (Sum.inl (r9.fst, IntKind.i64.wrap (p7.snd + (1 : Int))))
                        else none
                      else some (Sum.inr (Sum.inl p7.fst)))
                    ((0 : Int), (0 : Int))).bind
                fun (r10 : Int ⊕ Int × Bool) =>
                Sum.elim
                  (fun (p11 : Int) => bif p11 == (0 : Int) then some ((0 : Int), (1 : Int)) else some (p11, (0 : Int)))
                  (fun (p12 : Int × Bool) =>
                    bif p12.fst == (0 : Int) then some ((0 : Int), (1 : Int)) else some (p12.fst, (0 : Int)))
                  r10)
            (fun (p13 : Int × Int) => some p13) r5
theorem d_split_check (N : Nat) : DenF Tryz.prog 133 ⟨[.t_i64, .l_i64], [.t_i64, .t_i64], [[none], [none]], split_check N⟩ :=
  den_of (N := N) (gam := [(152, ⟨[.t_i64, .t_i64], [.t_i64, .t_bool], [[none], [none]], split_plus N⟩), (147, ⟨[.t_i64], [.t_i64], [[none]], split_check_1 N⟩)]) (txt := [(146, Tryz.f146)]) (hints := [(133, [([0, 0, 1, 1], ⟨[1], [], [(.nrm, [.reg 18 .t_bool [none]])], []⟩), ([0, 1, 0, 1, 1, 1], ⟨[1, 19, 20], [.reg 21 .t_i64 [none]], [(.ex 0, []), (.ret, [.reg 4 .t_i64 [none], .reg 5 .t_i64 [none]])], []⟩), ([0, 1, 0, 0, 1, 1, 0, 0, 1, 0, 1, 1, 1], ⟨[1, 19, 20, 21], [], [(.nrm, [.reg 30 .t_bool [none]])], []⟩)]), (146, [([0, 1, 0, 1, 1], ⟨[1, 10, 11], [.reg 6 .t_i64 [none], .reg 12 .t_i64 [none]], [(.ex 0, [.reg 6 .t_i64 [none]]), (.ret, [.reg 4 .t_i64 [none], .reg 5 .t_bool [none]])], []⟩)])]) mixed (.cons (d_split_plus N) (.cons (d_split_check_1 N) .nil)) (.cons Tryz.func146 .nil) Tryz.func133 (by kernel_rfl) (by kernel_rfl)

def bits_Mul64 (N : Nat) (x0 x1 : Int) : Option (Int × Int) :=
 
  some
    (IntKind.u64.wrap
        (IntKind.u64.wrap
            (IntKind.u64.wrap (shrI IntKind.u64 x0 (32 : Int) * shrI IntKind.u64 x1 (32 : Int)) +
              shrI IntKind.u64
                (IntKind.u64.wrap
                  (IntKind.u64.wrap (shrI IntKind.u64 x0 (32 : Int) * andI IntKind.u64 x1 (4294967295 : Int)) +
                    shrI IntKind.u64
                      (IntKind.u64.wrap
                        (andI IntKind.u64 x0 (4294967295 : Int) * andI IntKind.u64 x1 (4294967295 : Int)))
                      (32 : Int)))
                (32 : Int)) +
          shrI IntKind.u64
            (IntKind.u64.wrap
              (andI IntKind.u64
                  (IntKind.u64.wrap
                    (IntKind.u64.wrap (shrI IntKind.u64 x0 (32 : Int) * andI IntKind.u64 x1 (4294967295 : Int)) +
                      shrI IntKind.u64
                        (IntKind.u64.wrap
                          (andI IntKind.u64 x0 (4294967295 : Int) * andI IntKind.u64 x1 (4294967295 : Int)))
                        (32 : Int)))
                  (4294967295 : Int) +
                IntKind.u64.wrap (andI IntKind.u64 x0 (4294967295 : Int) * shrI IntKind.u64 x1 (32 : Int))))
            (32 : Int)),
      IntKind.u64.wrap (x0 * x1))
theorem d_bits_Mul64 (N : Nat) : DenF Tryz.prog 148 ⟨[.t_u64, .t_u64], [.t_u64, .t_u64], [[none], [none]], bits_Mul64 N⟩ :=
  den_of (N := N) (gam := []) (txt := []) (hints := []) mixed .nil .nil Tryz.func148 (by kernel_rfl) (by kernel_rfl)

def bits_Len64 (N : Nat) (x0 : Int) : Option Int :=
 
  (bif decide (x0 ≥ (4294967296 : Int)) then some (shrI IntKind.u64 x0 (32 : Int), (32 : Int))
      else some (x0, (0 : Int))).bind
    fun (r1 : Int × Int) =>
    (bif decide (r1.fst ≥ (65536 : Int)) then
          some (shrI IntKind.u64 r1.fst (16 : Int), IntKind.i64.wrap (r1.snd + (16 : Int)))
        else some r1).bind
      fun (r2 : Int × Int) =>
      (bif decide (r2.fst ≥ (256 : Int)) then
            some (shrI IntKind.u64 r2.fst (8 : Int), IntKind.i64.wrap (r2.snd + (8 : Int)))
          else some r2).bind
        fun (r3 : Int × Int) =>
        bif decide ((0 : Int) ≤ IntKind.u8.wrap r3.fst) && decide (IntKind.u8.wrap r3.fst < (256 : Int)) then
          some
            (IntKind.i64.wrap
              (r3.snd +
                IntKind.i64.wrap
                  (byteAt
                    (ByteArray.mk
                      (Array.mk
                        [UInt8.ofBitVec
                            (BitVec.ofFin (Fin.Internal.ofNat 256 (BitVec.ofNat._proof_1 8) 0)),
                          UInt8.ofBitVec
                            (BitVec.ofFin (Fin.Internal.ofNat 256 (BitVec.ofNat._proof_1 8) 1)),
                          UInt8.ofBitVec
                            (BitVec.ofFin (Fin.Internal.ofNat 256 (BitVec.ofNat._proof_1 8) 2)),
                          UInt8.ofBitVec
                            (BitVec.ofFin (Fin.Internal.ofNat 256 (BitVec.ofNat._proof_1 8) 2)),
                          UInt8.ofBitVec
                            (BitVec.ofFin (Fin.Internal.ofNat 256 (BitVec.ofNat._proof_1 8) 3)),
                          UInt8.ofBitVec
                            (BitVec.ofFin (Fin.Internal.ofNat 256 (BitVec.ofNat._proof_1 8) 3)),
                          UInt8.ofBitVec
                            (BitVec.ofFin (Fin.Internal.ofNat 256 (BitVec.ofNat._proof_1 8) 3)),
                          UInt8.ofBitVec
                            (BitVec.ofFin (Fin.Internal.ofNat 256 (BitVec.ofNat._proof_1 8) 3)),
                          UInt8.ofBitVec
                            (BitVec.ofFin (Fin.Internal.ofNat 256 (BitVec.ofNat._proof_1 8) 4)),
                          UInt8.ofBitVec
                            (BitVec.ofFin (Fin.Internal.ofNat 256 (BitVec.ofNat._proof_1 8) 4)),
                          UInt8.ofBitVec
                            (BitVec.ofFin (Fin.Internal.ofNat 256 (BitVec.ofNat._proof_1 8) 4)),
                          UInt8.ofBitVec
                            (BitVec.ofFin (Fin.Internal.ofNat 256 (BitVec.ofNat._proof_1 8) 4)),
                          UInt8.ofBitVec
                            (BitVec.ofFin (Fin.Internal.ofNat 256 (BitVec.ofNat._proof_1 8) 4)),
                          UInt8.ofBitVec
                            (BitVec.ofFin (Fin.Internal.ofNat 256 (BitVec.ofNat._proof_1 8) 4)),
                          UInt8.ofBitVec
                            (BitVec.ofFin (Fin.Internal.ofNat 256 (BitVec.ofNat._proof_1 8) 4)),
                          UInt8.ofBitVec
                            (BitVec.ofFin (Fin.Internal.ofNat 256 (BitVec.ofNat._proof_1 8) 4)),
                          UInt8.ofBitVec
                            (BitVec.ofFin (Fin.Internal.ofNat 256 (BitVec.ofNat._proof_1 8) 5)),
                          UInt8.ofBitVec
                            (BitVec.ofFin (Fin.Internal.ofNat 256 (BitVec.ofNat._proof_1 8) 5)),
                          UInt8.ofBitVec
                            (BitVec.ofFin (Fin.Internal.ofNat 256 (BitVec.ofNat._proof_1 8) 5)),
                          UInt8.ofBitVec
                            (BitVec.ofFin (Fin.Internal.ofNat 256 (BitVec.ofNat._proof_1 8) 5)),
                          UInt8.ofBitVec
                            (BitVec.ofFin (Fin.Internal.ofNat 256 (BitVec.ofNat._proof_1 8) 5)),
                          UInt8.ofBitVec
                            (BitVec.ofFin (Fin.Internal.ofNat 256 (BitVec.ofNat._proof_1 8) 5)),
                          UInt8.ofBitVec
                            (BitVec.ofFin (Fin.Internal.ofNat 256 (BitVec.ofNat._proof_1 8) 5)),
                          UInt8.ofBitVec
                            (BitVec.ofFin (Fin.Internal.ofNat 256 (BitVec.ofNat._proof_1 8) 5)),
                          UInt8.ofBitVec
                            (BitVec.ofFin (Fin.Internal.ofNat 256 (BitVec.ofNat._proof_1 8) 5)),
                          UInt8.ofBitVec
                            (BitVec.ofFin (Fin.Internal.ofNat 256 (BitVec.ofNat._proof_1 8) 5)),
                          UInt8.ofBitVec
                            (BitVec.ofFin (Fin.Internal.ofNat 256 (BitVec.ofNat._proof_1 8) 5)),
                          UInt8.ofBitVec
                            (BitVec.ofFin (Fin.Internal.ofNat 256 (BitVec.ofNat._proof_1 8) 5)),
                          UInt8.ofBitVec
                            (BitVec.ofFin (Fin.Internal.ofNat 256 (BitVec.ofNat._proof_1 8) 5)),
                          UInt8.ofBitVec
                            (BitVec.ofFin (Fin.Internal.ofNat 256 (BitVec.ofNat._proof_1 8) 5)),
                          UInt8.ofBitVec
                            (BitVec.ofFin (Fin.Internal.ofNat 256 (BitVec.ofNat._proof_1 8) 5)),
                          UInt8.ofBitVec
                            (BitVec.ofFin (Fin.Internal.ofNat 256 (BitVec.ofNat._proof_1 8) 5)),
                          UInt8.ofBitVec
                            (BitVec.ofFin (Fin.Internal.ofNat 256 (BitVec.ofNat._proof_1 8) 6)),
                          UInt8.ofBitVec
                            (BitVec.ofFin (Fin.Internal.ofNat 256 (BitVec.ofNat._proof_1 8) 6)),
                          UInt8.ofBitVec
                            (BitVec.ofFin (Fin.Internal.ofNat 256 (BitVec.ofNat._proof_1 8) 6)),
                          UInt8.ofBitVec
                            (BitVec.ofFin (Fin.Internal.ofNat 256 (BitVec.ofNat._proof_1 8) 6)),
                          UInt8.ofBitVec
                            (BitVec.ofFin (Fin.Internal.ofNat 256 (BitVec.ofNat._proof_1 8) 6)),
                          UInt8.ofBitVec
                            (BitVec.ofFin (Fin.Internal.ofNat 256 (BitVec.ofNat._proof_1 8) 6)),
                          UInt8.ofBitVec
                            (BitVec.ofFin (Fin.Internal.ofNat 256 (BitVec.ofNat._proof_1 8) 6)),
                          UInt8.ofBitVec
                            (BitVec.ofFin (Fin.Internal.ofNat 256 (BitVec.ofNat._proof_1 8) 6)),
                          UInt8.ofBitVec
                            (BitVec.ofFin (Fin.Internal.ofNat 256 (BitVec.ofNat._proof_1 8) 6)),
                          UInt8.ofBitVec
                            (BitVec.ofFin (Fin.Internal.ofNat 256 (BitVec.ofNat._proof_1 8) 6)),
                          UInt8.ofBitVec
                            (BitVec.ofFin (Fin.Internal.ofNat 256 (BitVec.ofNat._proof_1 8) 6)),
                          UInt8.ofBitVec
                            (BitVec.ofFin (Fin.Internal.ofNat 256 (BitVec.ofNat._proof_1 8) 6)),
                          UInt8.ofBitVec
                            (BitVec.ofFin (Fin.Internal.ofNat 256 (BitVec.ofNat._proof_1 8) 6)),
                          UInt8.ofBitVec
                            (BitVec.ofFin (Fin.Internal.ofNat 256 (BitVec.ofNat._proof_1 8) 6)),
                          UInt8.ofBitVec
                            (BitVec.ofFin (Fin.Internal.ofNat 256 (BitVec.ofNat._proof_1 8) 6)),
                          UInt8.ofBitVec
                            (BitVec.ofFin (Fin.Internal.ofNat 256 (BitVec.ofNat._proof_1 8) 6)),
                          UInt8.ofBitVec
                            (BitVec.ofFin (Fin.Internal.ofNat 256 (BitVec.ofNat._proof_1 8) 6)),
                          UInt8.ofBitVec
                            (BitVec.ofFin (Fin.Internal.ofNat 256 (BitVec.ofNat._proof_1 8) 6)),
                          UInt8.ofBitVec
                            (BitVec.ofFin (Fin.Internal.ofNat 256 (BitVec.ofNat._proof_1 8) 6)),
                          UInt8.ofBitVec
                            (BitVec.ofFin (Fin.Internal.ofNat 256 (BitVec.ofNat._proof_1 8) 6)),
                          UInt8.ofBitVec
                            (BitVec.ofFin (Fin.Internal.ofNat 256 (BitVec.ofNat._proof_1 8) 6)),
                          UInt8.ofBitVec
                            (BitVec.ofFin (Fin.Internal.ofNat 256 (BitVec.ofNat._proof_1 8) 6)),
                          UInt8.ofBitVec
                            (BitVec.ofFin (Fin.Internal.ofNat 256 (BitVec.ofNat._proof_1 8) 6)),
                          UInt8.ofBitVec
                            (BitVec.ofFin (Fin.Internal.ofNat 256 (BitVec.ofNat._proof_1 8) 6)),
                          UInt8.ofBitVec
                            (BitVec.ofFin (Fin.Internal.ofNat 256 (BitVec.ofNat._proof_1 8) 6)),
                          UInt8.ofBitVec
                            (BitVec.ofFin (Fin.Internal.ofNat 256 (BitVec.ofNat._proof_1 8) 6)),
                          UInt8.ofBitVec
                            (BitVec.ofFin (Fin.Internal.ofNat 256 (BitVec.ofNat._proof_1 8) 6)),
                          UInt8.ofBitVec
                            (BitVec.ofFin (Fin.Internal.ofNat 256 (BitVec.ofNat._proof_1 8) 6)),
                          UInt8.ofBitVec
                            (BitVec.ofFin (Fin.Internal.ofNat 256 (BitVec.ofNat._proof_1 8) 6)),
                          UInt8.ofBitVec
                            (BitVec.ofFin (Fin.Internal.ofNat 256 (BitVec.ofNat._proof_1 8) 6)),
                          UInt8.ofBitVec
                            (BitVec.ofFin (Fin.Internal.ofNat 256 (BitVec.ofNat._proof_1 8) 6)),
                          UInt8.ofBitVec
                            (BitVec.ofFin (Fin.Internal.ofNat 256 (BitVec.ofNat._proof_1 8) 6)),
                          UInt8.ofBitVec
                            (BitVec.ofFin (Fin.Internal.ofNat 256 (BitVec.ofNat._proof_1 8) 7)),
                          UInt8.ofBitVec
                            (BitVec.ofFin (Fin.Internal.ofNat 256 (BitVec.ofNat._proof_1 8) 7)),
                          UInt8.ofBitVec
                            (BitVec.ofFin (Fin.Internal.ofNat 256 (BitVec.ofNat._proof_1 8) 7)),
                          UInt8.ofBitVec
                            (BitVec.ofFin (Fin.Internal.ofNat 256 (BitVec.ofNat._proof_1 8) 7)),
                          UInt8.ofBitVec
                            (BitVec.ofFin (Fin.Internal.ofNat 256 (BitVec.ofNat._proof_1 8) 7)),
                          UInt8.ofBitVec
                            (BitVec.ofFin (Fin.Internal.ofNat 256 (BitVec.ofNat._proof_1 8) 7)),
                          UInt8.ofBitVec
                            (BitVec.ofFin (Fin.Internal.ofNat 256 (BitVec.ofNat._proof_1 8) 7)),
                          UInt8.ofBitVec
                            (BitVec.ofFin (Fin.Internal.ofNat 256 (BitVec.ofNat._proof_1 8) 7)),
                          UInt8.ofBitVec
                            (BitVec.ofFin (Fin.Internal.ofNat 256 (BitVec.ofNat._proof_1 8) 7)),
                          UInt8.ofBitVec
                            (BitVec.ofFin (Fin.Internal.ofNat 256 (BitVec.ofNat._proof_1 8) 7)),
                          UInt8.ofBitVec
                            (BitVec.ofFin (Fin.Internal.ofNat 256 (BitVec.ofNat._proof_1 8) 7)),
                          UInt8.ofBitVec
                            (BitVec.ofFin (Fin.Internal.ofNat 256 (BitVec.ofNat._proof_1 8) 7)),
                          UInt8.ofBitVec
                            (BitVec.ofFin (Fin.Internal.ofNat 256 (BitVec.ofNat._proof_1 8) 7)),
                          UInt8.ofBitVec
                            (BitVec.ofFin (Fin.Internal.ofNat 256 (BitVec.ofNat._proof_1 8) 7)),
                          UInt8.ofBitVec
                            (BitVec.ofFin (Fin.Internal.ofNat 256 (BitVec.ofNat._proof_1 8) 7)),
                          UInt8.ofBitVec
                            (BitVec.ofFin (Fin.Internal.ofNat 256 (BitVec.ofNat._proof_1 8) 7)),
                          UInt8.ofBitVec
                            (BitVec.ofFin (Fin.Internal.ofNat 256 (BitVec.ofNat._proof_1 8) 7)),
                          UInt8.ofBitVec
                            (BitVec.ofFin (Fin.Internal.ofNat 256 (BitVec.ofNat._proof_1 8) 7)),
                          UInt8.ofBitVec
                            (BitVec.ofFin (Fin.Internal.ofNat 256 (BitVec.ofNat._proof_1 8) 7)),
                          UInt8.ofBitVec
                            (BitVec.ofFin (Fin.Internal.ofNat 256 (BitVec.ofNat._proof_1 8) 7)),
                          UInt8.ofBitVec
                            (BitVec.ofFin (Fin.Internal.ofNat 256 (BitVec.ofNat._proof_1 8) 7)),
                          UInt8.ofBitVec
                            (BitVec.ofFin (Fin.Internal.ofNat 256 (BitVec.ofNat._proof_1 8) 7)),
                          UInt8.ofBitVec
                            (BitVec.ofFin (Fin.Internal.ofNat 256 (BitVec.ofNat._proof_1 8) 7)),
                          UInt8.ofBitVec
                            (BitVec.ofFin (Fin.Internal.ofNat 256 (BitVec.ofNat._proof_1 8) 7)),
                          UInt8.ofBitVec
                            (BitVec.ofFin (Fin.Internal.ofNat 256 (BitVec.ofNat._proof_1 8) 7)),
                          UInt8.ofBitVec
                            (BitVec.ofFin (Fin.Internal.ofNat 256 (BitVec.ofNat._proof_1 8) 7)),
                          UInt8.ofBitVec
                            (BitVec.ofFin (Fin.Internal.ofNat 256 (BitVec.ofNat._proof_1 8) 7)),
                          UInt8.ofBitVec
                            (BitVec.ofFin (Fin.Internal.ofNat 256 (BitVec.ofNat._proof_1 8) 7)),
                          UInt8.ofBitVec
                            (BitVec.ofFin (Fin.Internal.ofNat 256 (BitVec.ofNat._proof_1 8) 7)),
                          UInt8.ofBitVec
                            (BitVec.ofFin (Fin.Internal.ofNat 256 (BitVec.ofNat._proof_1 8) 7)),
                          UInt8.ofBitVec
                            (BitVec.ofFin (Fin.Internal.ofNat 256 (BitVec.ofNat._proof_1 8) 7)),
                          UInt8.ofBitVec
                            (BitVec.ofFin (Fin.Internal.ofNat 256 (BitVec.ofNat._proof_1 8) 7)),
                          UInt8.ofBitVec
                            (BitVec.ofFin (Fin.Internal.ofNat 256 (BitVec.ofNat._proof_1 8) 7)),
                          UInt8.ofBitVec
                            (BitVec.ofFin (Fin.Internal.ofNat 256 (BitVec.ofNat._proof_1 8) 7)),
                          UInt8.ofBitVec
                            (BitVec.ofFin (Fin.Internal.ofNat 256 (BitVec.ofNat._proof_1 8) 7)),
                          UInt8.ofBitVec
                            (BitVec.ofFin (Fin.Internal.ofNat 256 (BitVec.ofNat._proof_1 8) 7)),
                          UInt8.ofBitVec
                            (BitVec.ofFin (Fin.Internal.ofNat 256 (BitVec.ofNat._proof_1 8) 7)),
                          UInt8.ofBitVec
                            (BitVec.ofFin (Fin.Internal.ofNat 256 (BitVec.ofNat._proof_1 8) 7)),
                          UInt8.ofBitVec
                            (BitVec.ofFin (Fin.Internal.ofNat 256 (BitVec.ofNat._proof_1 8) 7)),
                          UInt8.ofBitVec
                            (BitVec.ofFin (Fin.Internal.ofNat 256 (BitVec.ofNat._proof_1 8) 7)),
                          UInt8.ofBitVec
                            (BitVec.ofFin (Fin.Internal.ofNat 256 (BitVec.ofNat._proof_1 8) 7)),
                          UInt8.ofBitVec
                            (BitVec.ofFin (Fin.Internal.ofNat 256 (BitVec.ofNat._proof_1 8) 7)),
                          UInt8.ofBitVec
                            (BitVec.ofFin (Fin.Internal.ofNat 256 (BitVec.ofNat._proof_1 8) 7)),
                          UInt8.ofBitVec
                            (BitVec.ofFin (Fin.Internal.ofNat 256 (BitVec.ofNat._proof_1 8) 7)),
                          UInt8.ofBitVec
                            (BitVec.ofFin (Fin.Internal.ofNat 256 (BitVec.ofNat._proof_1 8) 7)),
                          UInt8.ofBitVec
                            (BitVec.ofFin (Fin.Internal.ofNat 256 (BitVec.ofNat._proof_1 8) 7)),
                          UInt8.ofBitVec
                            (BitVec.ofFin (Fin.Internal.ofNat 256 (BitVec.ofNat._proof_1 8) 7)),
                          UInt8.ofBitVec
                            (BitVec.ofFin (Fin.Internal.ofNat 256 (BitVec.ofNat._proof_1 8) 7)),
                          UInt8.ofBitVec
                            (BitVec.ofFin (Fin.Internal.ofNat 256 (BitVec.ofNat._proof_1 8) 7)),
                          UInt8.ofBitVec
                            (BitVec.ofFin (Fin.Internal.ofNat 256 (BitVec.ofNat._proof_1 8) 7)),
                          UInt8.ofBitVec
                            (BitVec.ofFin (Fin.Internal.ofNat 256 (BitVec.ofNat._proof_1 8) 7)),
                          UInt8.ofBitVec
                            (BitVec.ofFin (Fin.Internal.ofNat 256 (BitVec.ofNat._proof_1 8) 7)),
                          UInt8.ofBitVec
                            (BitVec.ofFin (Fin.Internal.ofNat 256 (BitVec.ofNat._proof_1 8) 7)),
                          UInt8.ofBitVec
                            (BitVec.ofFin (Fin.Internal.ofNat 256 (BitVec.ofNat._proof_1 8) 7)),
                          UInt8.ofBitVec
                            (BitVec.ofFin (Fin.Internal.ofNat 256 (BitVec.ofNat._proof_1 8) 7)),
                          UInt8.ofBitVec
                            (BitVec.ofFin (Fin.Internal.ofNat 256 (BitVec.ofNat._proof_1 8) 7)),
                          UInt8.ofBitVec
                            (BitVec.ofFin (Fin.Internal.ofNat 256 (BitVec.ofNat._proof_1 8) 7)),
                          UInt8.ofBitVec
                            (BitVec.ofFin (Fin.Internal.ofNat 256 (BitVec.ofNat._proof_1 8) 7)),
                          UInt8.ofBitVec
                            (BitVec.ofFin (Fin.Internal.ofNat 256 (BitVec.ofNat._proof_1 8) 7)),
                          UInt8.ofBitVec
                            (BitVec.ofFin (Fin.Internal.ofNat 256 (BitVec.ofNat._proof_1 8) 7)),
                          UInt8.ofBitVec
                            (BitVec.ofFin (Fin.Internal.ofNat 256 (BitVec.ofNat._proof_1 8) 7)),
                          UInt8.ofBitVec
                            (BitVec.ofFin (Fin.Internal.ofNat 256 (BitVec.ofNat._proof_1 8) 7)),
                          UInt8.ofBitVec
                            (BitVec.ofFin (Fin.Internal.ofNat 256 (BitVec.ofNat._proof_1 8) 7)),
                          UInt8.ofBitVec
                            (BitVec.ofFin (Fin.Internal.ofNat 256 (BitVec.ofNat._proof_1 8) 7)),
                          UInt8.ofBitVec
                            (BitVec.ofFin (Fin.Internal.ofNat 256 (BitVec.ofNat._proof_1 8) 8)),
                          UInt8.ofBitVec
                            (BitVec.ofFin (Fin.Internal.ofNat 256 (BitVec.ofNat._proof_1 8) 8)),
                          UInt8.ofBitVec
                            (BitVec.ofFin (Fin.Internal.ofNat 256 (BitVec.ofNat._proof_1 8) 8)),
                          UInt8.ofBitVec
                            (BitVec.ofFin (Fin.Internal.ofNat 256 (BitVec.ofNat._proof_1 8) 8)),
                          UInt8.ofBitVec
                            (BitVec.ofFin (Fin.Internal.ofNat 256 (BitVec.ofNat._proof_1 8) 8)),
                          UInt8.ofBitVec
                            (BitVec.ofFin (Fin.Internal.ofNat 256 (BitVec.ofNat._proof_1 8) 8)),
                          UInt8.ofBitVec
                            (BitVec.ofFin (Fin.Internal.ofNat 256 (BitVec.ofNat._proof_1 8) 8)),
                          UInt8.ofBitVec
                            (BitVec.ofFin (Fin.Internal.ofNat 256 (BitVec.ofNat._proof_1 8) 8)),
                          UInt8.ofBitVec
                            (BitVec.ofFin (Fin.Internal.ofNat 256 (BitVec.ofNat._proof_1 8) 8)),
                          UInt8.ofBitVec
                            (BitVec.ofFin (Fin.Internal.ofNat 256 (BitVec.ofNat._proof_1 8) 8)),
                          UInt8.ofBitVec
                            (BitVec.ofFin (Fin.Internal.ofNat 256 (BitVec.ofNat._proof_1 8) 8)),
                          UInt8.ofBitVec
                            (BitVec.ofFin (Fin.Internal.ofNat 256 (BitVec.ofNat._proof_1 8) 8)),
                          UInt8.ofBitVec
                            (BitVec.ofFin (Fin.Internal.ofNat 256 (BitVec.ofNat._proof_1 8) 8)),
                          UInt8.ofBitVec
                            (BitVec.ofFin (Fin.Internal.ofNat 256 (BitVec.ofNat._proof_1 8) 8)),
                          UInt8.ofBitVec
                            (BitVec.ofFin (Fin.Internal.ofNat 256 (BitVec.ofNat._proof_1 8) 8)),
                          UInt8.ofBitVec
                            (BitVec.ofFin (Fin.Internal.ofNat 256 (BitVec.ofNat._proof_1 8) 8)),
                          UInt8.ofBitVec
                            (BitVec.ofFin (Fin.Internal.ofNat 256 (BitVec.ofNat._proof_1 8) 8)),
                          UInt8.ofBitVec
                            (BitVec.ofFin (Fin.Internal.ofNat 256 (BitVec.ofNat._proof_1 8) 8)),
                          UInt8.ofBitVec
                            (BitVec.ofFin (Fin.Internal.ofNat 256 (BitVec.ofNat._proof_1 8) 8)),
                          UInt8.ofBitVec
                            (BitVec.ofFin (Fin.Internal.ofNat 256 (BitVec.ofNat._proof_1 8) 8)),
                          UInt8.ofBitVec
                            (BitVec.ofFin (Fin.Internal.ofNat 256 (BitVec.ofNat._proof_1 8) 8)),
                          UInt8.ofBitVec
                            (BitVec.ofFin (Fin.Internal.ofNat 256 (BitVec.ofNat._proof_1 8) 8)),
                          UInt8.ofBitVec
                            (BitVec.ofFin (Fin.Internal.ofNat 256 (BitVec.ofNat._proof_1 8) 8)),
                          UInt8.ofBitVec
                            (BitVec.ofFin (Fin.Internal.ofNat 256 (BitVec.ofNat._proof_1 8) 8)),
                          UInt8.ofBitVec
                            (BitVec.ofFin (Fin.Internal.ofNat 256 (BitVec.ofNat._proof_1 8) 8)),
                          UInt8.ofBitVec
                            (BitVec.ofFin (Fin.Internal.ofNat 256 (BitVec.ofNat._proof_1 8) 8)),
                          UInt8.ofBitVec
                            (BitVec.ofFin (Fin.Internal.ofNat 256 (BitVec.ofNat._proof_1 8) 8)),
                          UInt8.ofBitVec
                            (BitVec.ofFin (Fin.Internal.ofNat 256 (BitVec.ofNat._proof_1 8) 8)),
                          UInt8.ofBitVec
                            (BitVec.ofFin (Fin.Internal.ofNat 256 (BitVec.ofNat._proof_1 8) 8)),
                          UInt8.ofBitVec
                            (BitVec.ofFin (Fin.Internal.ofNat 256 (BitVec.ofNat._proof_1 8) 8)),
                          UInt8.ofBitVec
                            (BitVec.ofFin (Fin.Internal.ofNat 256 (BitVec.ofNat._proof_1 8) 8)),
                          UInt8.ofBitVec
                            (BitVec.ofFin (Fin.Internal.ofNat 256 (BitVec.ofNat._proof_1 8) 8)),
                          UInt8.ofBitVec
                            (BitVec.ofFin (Fin.Internal.ofNat 256 (BitVec.ofNat._proof_1 8) 8)),
                          UInt8.ofBitVec
                            (BitVec.ofFin (Fin.Internal.ofNat 256 (BitVec.ofNat._proof_1 8) 8)),
                          UInt8.ofBitVec
                            (BitVec.ofFin (Fin.Internal.ofNat 256 (BitVec.ofNat._proof_1 8) 8)),
                          UInt8.ofBitVec
                            (BitVec.ofFin (Fin.Internal.ofNat 256 (BitVec.ofNat._proof_1 8) 8)),
                          UInt8.ofBitVec
                            (BitVec.ofFin (Fin.Internal.ofNat 256 (BitVec.ofNat._proof_1 8) 8)),
                          UInt8.ofBitVec
                            (BitVec.ofFin (Fin.Internal.ofNat 256 (BitVec.ofNat._proof_1 8) 8)),
                          UInt8.ofBitVec
                            (BitVec.ofFin (Fin.Internal.ofNat 256 (BitVec.ofNat._proof_1 8) 8)),
                          UInt8.ofBitVec
                            (BitVec.ofFin (Fin.Internal.ofNat 256 (BitVec.ofNat._proof_1 8) 8)),
                          UInt8.ofBitVec
                            (BitVec.ofFin (Fin.Internal.ofNat 256 (BitVec.ofNat._proof_1 8) 8)),
                          UInt8.ofBitVec
                            (BitVec.ofFin (Fin.Internal.ofNat 256 (BitVec.ofNat._proof_1 8) 8)),
                          UInt8.ofBitVec
                            (BitVec.ofFin (Fin.Internal.ofNat 256 (BitVec.ofNat._proof_1 8) 8)),
                          UInt8.ofBitVec
                            (BitVec.ofFin (Fin.Internal.ofNat 256 (BitVec.ofNat._proof_1 8) 8)),
                          UInt8.ofBitVec
                            (BitVec.ofFin (Fin.Internal.ofNat 256 (BitVec.ofNat._proof_1 8) 8)),
                          UInt8.ofBitVec
                            (BitVec.ofFin (Fin.Internal.ofNat 256 (BitVec.ofNat._proof_1 8) 8)),
                          UInt8.ofBitVec
                            (BitVec.ofFin (Fin.Internal.ofNat 256 (BitVec.ofNat._proof_1 8) 8)),
                          UInt8.ofBitVec
                            (BitVec.ofFin (Fin.Internal.ofNat 256 (BitVec.ofNat._proof_1 8) 8)),
                          UInt8.ofBitVec
                            (BitVec.ofFin (Fin.Internal.ofNat 256 (BitVec.ofNat._proof_1 8) 8)),
                          UInt8.ofBitVec
                            (BitVec.ofFin (Fin.Internal.ofNat 256 (BitVec.ofNat._proof_1 8) 8)),
                          UInt8.ofBitVec
                            (BitVec.ofFin (Fin.Internal.ofNat 256 (BitVec.ofNat._proof_1 8) 8)),
                          UInt8.ofBitVec
                            (BitVec.ofFin (Fin.Internal.ofNat 256 (BitVec.ofNat._proof_1 8) 8)),
                          UInt8.ofBitVec
                            (BitVec.ofFin (Fin.Internal.ofNat 256 (BitVec.ofNat._proof_1 8) 8)),
                          UInt8.ofBitVec
                            (BitVec.ofFin (Fin.Internal.ofNat 256 (BitVec.ofNat._proof_1 8) 8)),
                          UInt8.ofBitVec
                            (BitVec.ofFin (Fin.Internal.ofNat 256 (BitVec.ofNat._proof_1 8) 8)),
                          UInt8.ofBitVec
                            (BitVec.ofFin (Fin.Internal.ofNat 256 (BitVec.ofNat._proof_1 8) 8)),
                          UInt8.ofBitVec
                            (BitVec.ofFin (Fin.Internal.ofNat 256 (BitVec.ofNat._proof_1 8) 8)),
                          UInt8.ofBitVec
                            (BitVec.ofFin (Fin.Internal.ofNat 256 (BitVec.ofNat._proof_1 8) 8)),
                          UInt8.ofBitVec
                            (BitVec.ofFin (Fin.Internal.ofNat 256 (BitVec.ofNat._proof_1 8) 8)),
                          UInt8.ofBitVec
                            (BitVec.ofFin (Fin.Internal.ofNat 256 (BitVec.ofNat._proof_1 8) 8)),
                          UInt8.ofBitVec
                            (BitVec.ofFin (Fin.Internal.ofNat 256 (BitVec.ofNat._proof_1 8) 8)),
                          UInt8.ofBitVec
                            (BitVec.ofFin (Fin.Internal.ofNat 256 (BitVec.ofNat._proof_1 8) 8)),
                          UInt8.ofBitVec
                            (BitVec.ofFin (Fin.Internal.ofNat 256 (BitVec.ofNat._proof_1 8) 8)),
                          UInt8.ofBitVec
                            (BitVec.ofFin (Fin.Internal.ofNat 256 (BitVec.ofNat._proof_1 8) 8)),
                          UInt8.ofBitVec
                            (BitVec.ofFin (Fin.Internal.ofNat 256 (BitVec.ofNat._proof_1 8) 8)),
                          UInt8.ofBitVec
                            (BitVec.ofFin (Fin.Internal.ofNat 256 (BitVec.ofNat._proof_1 8) 8)),
                          UInt8.ofBitVec
                            (BitVec.ofFin (Fin.Internal.ofNat 256 (BitVec.ofNat._proof_1 8) 8)),
                          UInt8.ofBitVec
                            (BitVec.ofFin (Fin.Internal.ofNat 256 (BitVec.ofNat._proof_1 8) 8)),
                          UInt8.ofBitVec
                            (BitVec.ofFin (Fin.Internal.ofNat 256 (BitVec.ofNat._proof_1 8) 8)),
                          UInt8.ofBitVec
                            (BitVec.ofFin (Fin.Internal.ofNat 256 (BitVec.ofNat._proof_1 8) 8)),
                          UInt8.ofBitVec
                            (BitVec.ofFin (Fin.Internal.ofNat 256 (BitVec.ofNat._proof_1 8) 8)),
                          UInt8.ofBitVec
                            (BitVec.ofFin (Fin.Internal.ofNat 256 (BitVec.ofNat._proof_1 8) 8)),
                          UInt8.ofBitVec
                            (BitVec.ofFin (Fin.Internal.ofNat 256 (BitVec.ofNat._proof_1 8) 8)),
                          UInt8.ofBitVec
                            (BitVec.ofFin (Fin.Internal.ofNat 256 (BitVec.ofNat._proof_1 8) 8)),
                          UInt8.ofBitVec
                            (BitVec.ofFin (Fin.Internal.ofNat 256 (BitVec.ofNat._proof_1 8) 8)),
                          UInt8.ofBitVec
                            (BitVec.ofFin (Fin.Internal.ofNat 256 (BitVec.ofNat._proof_1 8) 8)),
                          UInt8.ofBitVec
                            (BitVec.ofFin (Fin.Internal.ofNat 256 (BitVec.ofNat._proof_1 8) 8)),
                          UInt8.ofBitVec
                            (BitVec.ofFin (Fin.Internal.ofNat 256 (BitVec.ofNat._proof_1 8) 8)),
                          UInt8.ofBitVec
                            (BitVec.ofFin (Fin.Internal.ofNat 256 (BitVec.ofNat._proof_1 8) 8)),
                          UInt8.ofBitVec
                            (BitVec.ofFin (Fin.Internal.ofNat 256 (BitVec.ofNat._proof_1 8) 8)),
                          UInt8.ofBitVec
                            (BitVec.ofFin (Fin.Internal.ofNat 256 (BitVec.ofNat._proof_1 8) 8)),
                          UInt8.ofBitVec
                            (BitVec.ofFin (Fin.Internal.ofNat 256 (BitVec.ofNat._proof_1 8) 8)),
                          UInt8.ofBitVec
                            (BitVec.ofFin (Fin.Internal.ofNat 256 (BitVec.ofNat._proof_1 8) 8)),
                          UInt8.ofBitVec
                            (BitVec.ofFin (Fin.Internal.ofNat 256 (BitVec.ofNat._proof_1 8) 8)),
                          UInt8.ofBitVec
                            (BitVec.ofFin (Fin.Internal.ofNat 256 (BitVec.ofNat._proof_1 8) 8)),
                          UInt8.ofBitVec
                            (BitVec.ofFin (Fin.Internal.ofNat 256 (BitVec.ofNat._proof_1 8) 8)),
                          UInt8.ofBitVec
                            (BitVec.ofFin (Fin.Internal.ofNat 256 (BitVec.ofNat._proof_1 8) 8)),
                          UInt8.ofBitVec
                            (BitVec.ofFin (Fin.Internal.ofNat 256 (BitVec.ofNat._proof_1 8) 8)),
                          UInt8.ofBitVec
                            (BitVec.ofFin (Fin.Internal.ofNat 256 (BitVec.ofNat._proof_1 8) 8)),
                          UInt8.ofBitVec
                            (BitVec.ofFin (Fin.Internal.ofNat 256 (BitVec.ofNat._proof_1 8) 8)),
                          UInt8.ofBitVec
                            (BitVec.ofFin (Fin.Internal.ofNat 256 (BitVec.ofNat._proof_1 8) 8)),
                          UInt8.ofBitVec
                            (BitVec.ofFin (Fin.Internal.ofNat 256 (BitVec.ofNat._proof_1 8) 8)),
                          UInt8.ofBitVec
                            (BitVec.ofFin (Fin.Internal.ofNat 256 (BitVec.ofNat._proof_1 8) 8)),
                          UInt8.ofBitVec
                            (BitVec.ofFin (Fin.Internal.ofNat 256 (BitVec.ofNat._proof_1 8) 8)),
                          UInt8.ofBitVec
                            (BitVec.ofFin (Fin.Internal.ofNat 256 (BitVec.ofNat._proof_1 8) 8)),
                          UInt8.ofBitVec
                            (BitVec.ofFin (Fin.Internal.ofNat 256 (BitVec.ofNat._proof_1 8) 8)),
                          UInt8.ofBitVec
                            (BitVec.ofFin (Fin.Internal.ofNat 256 (BitVec.ofNat._proof_1 8) 8)),
                          UInt8.ofBitVec
                            (BitVec.ofFin (Fin.Internal.ofNat 256 (BitVec.ofNat._proof_1 8) 8)),
                          UInt8.ofBitVec
                            (BitVec.ofFin (Fin.Internal.ofNat 256 (BitVec.ofNat._proof_1 8) 8)),
                          UInt8.ofBitVec
                            (BitVec.ofFin (Fin.Internal.ofNat 256 (BitVec.ofNat._proof_1 8) 8)),
                          UInt8.ofBitVec
                            (BitVec.ofFin (Fin.Internal.ofNat 256 (BitVec.ofNat._proof_1 8) 8)),
                          UInt8.ofBitVec
                            (BitVec.ofFin (Fin.Internal.ofNat 256 (BitVec.ofNat._proof_1 8) 8)),
                          UInt8.ofBitVec
                            (BitVec.ofFin (Fin.Internal.ofNat 256 (BitVec.ofNat._proof_1 8) 8)),
                          UInt8.ofBitVec
                            (BitVec.ofFin (Fin.Internal.ofNat 256 (BitVec.ofNat._proof_1 8) 8)),
                          UInt8.ofBitVec
                            (BitVec.ofFin (Fin.Internal.ofNat 256 (BitVec.ofNat._proof_1 8) 8)),
                          UInt8.ofBitVec
                            (BitVec.ofFin (Fin.Internal.ofNat 256 (BitVec.ofNat._proof_1 8) 8)),
                          UInt8.ofBitVec
                            (BitVec.ofFin (Fin.Internal.ofNat 256 (BitVec.ofNat._proof_1 8) 8)),
                          UInt8.ofBitVec
                            (BitVec.ofFin (Fin.Internal.ofNat 256 (BitVec.ofNat._proof_1 8) 8)),
                          UInt8.ofBitVec
                            (BitVec.ofFin (Fin.Internal.ofNat 256 (BitVec.ofNat._proof_1 8) 8)),
                          UInt8.ofBitVec
                            (BitVec.ofFin (Fin.Internal.ofNat 256 (BitVec.ofNat._proof_1 8) 8)),
                          UInt8.ofBitVec
                            (BitVec.ofFin (Fin.Internal.ofNat 256 (BitVec.ofNat._proof_1 8) 8)),
                          UInt8.ofBitVec
                            (BitVec.ofFin (Fin.Internal.ofNat 256 (BitVec.ofNat._proof_1 8) 8)),
                          UInt8.ofBitVec
                            (BitVec.ofFin (Fin.Internal.ofNat 256 (BitVec.ofNat._proof_1 8) 8)),
                          UInt8.ofBitVec
                            (BitVec.ofFin (Fin.Internal.ofNat 256 (BitVec.ofNat._proof_1 8) 8)),
                          UInt8.ofBitVec
                            (BitVec.ofFin (Fin.Internal.ofNat 256 (BitVec.ofNat._proof_1 8) 8)),
                          UInt8.ofBitVec
                            (BitVec.ofFin (Fin.Internal.ofNat 256 (BitVec.ofNat._proof_1 8) 8)),
                          UInt8.ofBitVec
                            (BitVec.ofFin (Fin.Internal.ofNat 256 (BitVec.ofNat._proof_1 8) 8)),
                          UInt8.ofBitVec
                            (BitVec.ofFin (Fin.Internal.ofNat 256 (BitVec.ofNat._proof_1 8) 8)),
                          UInt8.ofBitVec
                            (BitVec.ofFin (Fin.Internal.ofNat 256 (BitVec.ofNat._proof_1 8) 8)),
                          UInt8.ofBitVec
                            (BitVec.ofFin (Fin.Internal.ofNat 256 (BitVec.ofNat._proof_1 8) 8)),
                          UInt8.ofBitVec
                            (BitVec.ofFin (Fin.Internal.ofNat 256 (BitVec.ofNat._proof_1 8) 8)),
                          UInt8.ofBitVec
                            (BitVec.ofFin (Fin.Internal.ofNat 256 (BitVec.ofNat._proof_1 8) 8)),
                          UInt8.ofBitVec
                            (BitVec.ofFin (Fin.Internal.ofNat 256 (BitVec.ofNat._proof_1 8) 8)),
                          UInt8.ofBitVec
                            (BitVec.ofFin (Fin.Internal.ofNat 256 (BitVec.ofNat._proof_1 8) 8)),
                          UInt8.ofBitVec
                            (BitVec.ofFin (Fin.Internal.ofNat 256 (BitVec.ofNat._proof_1 8) 8)),
                          UInt8.ofBitVec
                            (BitVec.ofFin (Fin.Internal.ofNat 256 (BitVec.ofNat._proof_1 8) 8)),
                          UInt8.ofBitVec
                            (BitVec.ofFin (Fin.Internal.ofNat 256 (BitVec.ofNat._proof_1 8) 8)),
                          UInt8.ofBitVec
                            (BitVec.ofFin
                              (Fin.Internal.ofNat 256 (BitVec.ofNat._proof_1 8) 8))]))
                    (IntKind.u8.wrap r3.fst))))
        else none
theorem d_bits_Len64 (N : Nat) : DenF Tryz.prog 156 ⟨[.t_u64], [.t_i64], [[none]], bits_Len64 N⟩ :=
  den_of (N := N) (gam := []) (txt := []) (hints := [(156, [([1, 0, 1], ⟨[], [], [(.nrm, [.reg 0 .t_u64 [none], .reg 2 .t_i64 [none]])], []⟩), ([1, 0, 1, 1], ⟨[], [], [(.nrm, [.reg 0 .t_u64 [none], .reg 2 .t_i64 [none]])], []⟩), ([1, 0, 1, 1, 1], ⟨[], [], [(.nrm, [.reg 0 .t_u64 [none], .reg 2 .t_i64 [none]])], []⟩)])]) mixed .nil .nil Tryz.func156 (by kernel_rfl) (by kernel_rfl)

def bits_LeadingZeros64 (N : Nat) (x0 : Int) : Option Int :=
  (bits_Len64 N x0).bind fun (r1 : Int) => some (IntKind.i64.wrap ((64 : Int) - r1))
theorem d_bits_LeadingZeros64 (N : Nat) : DenF Tryz.prog 153 ⟨[.t_u64], [.t_i64], [[none]], bits_LeadingZeros64 N⟩ :=
  den_of (N := N) (gam := [(156, ⟨[.t_u64], [.t_i64], [[none]], bits_Len64 N⟩)]) (txt := []) (hints := []) mixed (.cons (d_bits_Len64 N) .nil) .nil Tryz.func153 (by kernel_rfl) (by kernel_rfl)

def bits_Div64 (N : Nat) (x0 x1 x2 : Int) : Option (Int × Int) :=
 
  (bif x2 == (0 : Int) then none else some ()).bind fun (r3 : Unit) =>
    (bif decide (x2 ≤ x0) then none else some ()).bind fun (r4 : Unit) =>
      bif x0 == (0 : Int) then
        bif x2 != (0 : Int) then bif x2 != (0 : Int) then some (IntKind.u64.wrap (x1.tdiv x2), x1.tmod x2) else none
        else none
      else
        (bits_LeadingZeros64 N x2).bind fun (r5 : Int) =>
          bif decide ((0 : Int) ≤ IntKind.u64.wrap r5) then
            bif decide ((0 : Int) ≤ IntKind.u64.wrap r5) then
              bif decide ((0 : Int) ≤ IntKind.u64.wrap ((64 : Int) - IntKind.u64.wrap r5)) then
                bif decide ((0 : Int) ≤ IntKind.u64.wrap r5) then
                  bif shrI IntKind.u64 (shlI IntKind.u64 x2 (IntKind.u64.wrap r5)) (32 : Int) != (0 : Int) then
                    (whileF N
                          (fun (p6 : Int × Int) =>
                            (bif decide (p6.fst ≥ (4294967296 : Int)) then some true
                                else
                                  some
                                    (decide
                                      (IntKind.u64.wrap
                                          (p6.fst *
                                            andI IntKind.u64 (shlI IntKind.u64 x2 (IntKind.u64.wrap r5))
                                              (4294967295 : Int)) >
                                        IntKind.u64.wrap
                                          (IntKind.u64.wrap ((4294967296 : Int) * p6.snd) +
                                            shrI IntKind.u64 (shlI IntKind.u64 x1 (IntKind.u64.wrap r5))
                                              (32 : Int))))).bind
                              fun (r7 : Bool) =>
                              bif r7 then
                                bif
                                    decide
                                      (IntKind.u64.wrap
                                          (p6.snd +
                                            shrI IntKind.u64 (shlI IntKind.u64 x2 (IntKind.u64.wrap r5)) (32 : Int)) ≥
                                        (4294967296 : Int)) then
                                  some (Sum.inr (IntKind.u64.wrap (p6.fst - (1 : Int))))
                                else
                                  some
                                    (Sum.inl
                                      (IntKind.u64.wrap (p6.fst - (1 : Int)),
                                        IntKind.u64.wrap
                                          (p6.snd +
                                            shrI IntKind.u64 (shlI IntKind.u64 x2 (IntKind.u64.wrap r5)) (32 : Int))))
                              else some (Sum.inr p6.fst))
                          (IntKind.u64.wrap
                              ((orI IntKind.u64 (shlI IntKind.u64 x0 (IntKind.u64.wrap r5))
                                    (shrI IntKind.u64 x1 (IntKind.u64.wrap ((64 : Int) - IntKind.u64.wrap r5)))).tdiv
                                (shrI IntKind.u64 (shlI IntKind.u64 x2 (IntKind.u64.wrap r5)) (32 : Int))),
                            IntKind.u64.wrap
                              (orI IntKind.u64 (shlI IntKind.u64 x0 (IntKind.u64.wrap r5))
                                  (shrI IntKind.u64 x1 (IntKind.u64.wrap ((64 : Int) - IntKind.u64.wrap r5))) -
                                IntKind.u64.wrap
                                  (IntKind.u64.wrap
                                      ((orI IntKind.u64 (shlI IntKind.u64 x0 (IntKind.u64.wrap r5))
                                            (shrI IntKind.u64 x1
                                              (IntKind.u64.wrap ((64 : Int) - IntKind.u64.wrap r5)))).tdiv
                                        (shrI IntKind.u64 (shlI IntKind.u64 x2 (IntKind.u64.wrap r5)) (32 : Int))) *
                                    shrI IntKind.u64 (shlI IntKind.u64 x2 (IntKind.u64.wrap r5)) (32 : Int))))).bind
                      fun (r8 : Int) =>
                      bif shrI IntKind.u64 (shlI IntKind.u64 x2 (IntKind.u64.wrap r5)) (32 : Int) != (0 : Int) then
                        (whileF N
                              (fun (p9 : Int × Int) =>
                                (bif decide (p9.snd ≥ (4294967296 : Int)) then some true
                                    else
                                      some
                                        (decide
                                          (IntKind.u64.wrap
                                              (p9.snd *
                                                andI IntKind.u64 (shlI IntKind.u64 x2 (IntKind.u64.wrap r5))
                                                  (4294967295 : Int)) >
                                            IntKind.u64.wrap
                                              (IntKind.u64.wrap ((4294967296 : Int) * p9.fst) +
                                                andI IntKind.u64 (shlI IntKind.u64 x1 (IntKind.u64.wrap r5))
                                                  (4294967295 : Int))))).bind
                                  fun (r10 : Bool) =>
                                  bif r10 then
                                    bif
                                        decide
                                          (IntKind.u64.wrap
                                              (p9.fst +
                                                shrI IntKind.u64 (shlI IntKind.u64 x2 (IntKind.u64.wrap r5))
                                                  (32 : Int)) ≥
                                            (4294967296 : Int)) then
                                      some (Sum.inr (IntKind.u64.wrap (p9.snd - (1 : Int))))
                                    else
                                      some
                                        (Sum.inl
                                          (IntKind.u64.wrap
                                              (p9.fst +
                                                shrI IntKind.u64 (shlI IntKind.u64 x2 (IntKind.u64.wrap r5))
                                                  (32 : Int)),
                                            IntKind.u64.wrap (p9.snd - (1 : Int))))
                                  else some (Sum.inr p9.snd))
                              (IntKind.u64.wrap
                                  (IntKind.u64.wrap
                                      (IntKind.u64.wrap
                                          (IntKind.u64.wrap
                                              (orI IntKind.u64 (shlI IntKind.u64 x0 (IntKind.u64.wrap r5))
                                                  (shrI IntKind.u64 x1
                                                    (IntKind.u64.wrap ((64 : Int) - IntKind.u64.wrap r5))) *
                                                (4294967296 : Int)) +
                                            shrI IntKind.u64 (shlI IntKind.u64 x1 (IntKind.u64.wrap r5)) (32 : Int)) -
                                        IntKind.u64.wrap (r8 * shlI IntKind.u64 x2 (IntKind.u64.wrap r5))) -
                                    IntKind.u64.wrap
                                      (IntKind.u64.wrap
                                          ((IntKind.u64.wrap
                                                (IntKind.u64.wrap
                                                    (IntKind.u64.wrap
                                                        (orI IntKind.u64 (shlI IntKind.u64 x0 (IntKind.u64.wrap r5))
                                                            (shrI IntKind.u64 x1
                                                              (IntKind.u64.wrap ((64 : Int) - IntKind.u64.wrap r5))) *
                                                          (4294967296 : Int)) +
                                                      shrI IntKind.u64 (shlI IntKind.u64 x1 (IntKind.u64.wrap r5))
                                                        (32 : Int)) -
                                                  IntKind.u64.wrap
                                                    (r8 * shlI IntKind.u64 x2 (IntKind.u64.wrap r5)))).tdiv
                                            (shrI IntKind.u64 (shlI IntKind.u64 x2 (IntKind.u64.wrap r5)) (32 : Int))) *
                                        shrI IntKind.u64 (shlI IntKind.u64 x2 (IntKind.u64.wrap r5)) (32 : Int))),
                                IntKind.u64.wrap
                                  ((IntKind.u64.wrap
                                        (IntKind.u64.wrap
                                            (IntKind.u64.wrap
                                                (orI IntKind.u64 (shlI IntKind.u64 x0 (IntKind.u64.wrap r5))
                                                    (shrI IntKind.u64 x1
                                                      (IntKind.u64.wrap ((64 : Int) - IntKind.u64.wrap r5))) *
                                                  (4294967296 : Int)) +
                                              shrI IntKind.u64 (shlI IntKind.u64 x1 (IntKind.u64.wrap r5)) (32 : Int)) -
                                          IntKind.u64.wrap (r8 * shlI IntKind.u64 x2 (IntKind.u64.wrap r5)))).tdiv
                                    (shrI IntKind.u64 (shlI IntKind.u64 x2 (IntKind.u64.wrap r5)) (32 : Int))))).bind
                          fun (r11 : Int) =>
                          bif decide ((0 : Int) ≤ IntKind.u64.wrap r5) then
                            some
                              (IntKind.u64.wrap (IntKind.u64.wrap (r8 * (4294967296 : Int)) + r11),
                                shrI IntKind.u64
                                  (IntKind.u64.wrap
                                    (IntKind.u64.wrap
                                        (IntKind.u64.wrap
                                            (IntKind.u64.wrap
                                                (IntKind.u64.wrap
                                                    (IntKind.u64.wrap
                                                        (orI IntKind.u64 (shlI IntKind.u64 x0 (IntKind.u64.wrap r5))
                                                            (shrI IntKind.u64 x1
                                                              (IntKind.u64.wrap ((64 : Int) - IntKind.u64.wrap r5))) *
                                                          (4294967296 : Int)) +
                                                      shrI IntKind.u64 (shlI IntKind.u64 x1 (IntKind.u64.wrap r5))
                                                        (32 : Int)) -
                                                  IntKind.u64.wrap (r8 * shlI IntKind.u64 x2 (IntKind.u64.wrap r5))) *
                                              (4294967296 : Int)) +
                                          andI IntKind.u64 (shlI IntKind.u64 x1 (IntKind.u64.wrap r5))
                                            (4294967295 : Int)) -
                                      IntKind.u64.wrap (r11 * shlI IntKind.u64 x2 (IntKind.u64.wrap r5))))
                                  (IntKind.u64.wrap r5))
                          else none
                      else none
                  else none
                else none
              else none
            else none
          else none
theorem d_bits_Div64 (N : Nat) : DenF Tryz.prog 149 ⟨[.t_u64, .t_u64, .t_u64], [.t_u64, .t_u64], [[none], [none]], bits_Div64 N⟩ :=
  den_of (N := N) (gam := [(153, ⟨[.t_u64], [.t_i64], [[none]], bits_LeadingZeros64 N⟩)]) (txt := []) (hints := [(149, [([1, 0, 1], ⟨[0, 1, 2], [], [(.nrm, [])], []⟩), ([1, 0, 1, 1], ⟨[0, 1, 2], [], [(.nrm, [])], []⟩), ([0, 0, 1, 1, 1, 1, 1, 1, 1, 1, 1, 1, 1, 1, 1, 1], ⟨[2, 8, 9, 10, 11, 13, 14], [.reg 15 .t_u64 [none], .reg 16 .t_u64 [none]], [(.ex 0, [.reg 15 .t_u64 [none]])], []⟩), ([0, 0, 0, 0, 0, 1, 1, 1, 1, 1, 1, 1, 1, 1, 1, 1, 1, 1, 1], ⟨[2, 8, 9, 10, 11, 13, 14, 15, 16], [], [(.nrm, [.reg 78 .t_bool [none]])], []⟩), ([0, 0, 1, 1, 1, 1, 1, 1, 1, 1, 1, 1, 1, 1, 1, 1, 1, 1, 1, 1], ⟨[2, 8, 9, 10, 14, 15, 17], [.reg 16 .t_u64 [none], .reg 18 .t_u64 [none]], [(.ex 2, [.reg 18 .t_u64 [none]])], []⟩), ([0, 0, 0, 0, 0, 1, 1, 1, 1, 1, 1, 1, 1, 1, 1, 1, 1, 1, 1, 1, 1, 1, 1], ⟨[2, 8, 9, 10, 14, 15, 16, 17, 18], [], [(.nrm, [.reg 113 .t_bool [none]])], []⟩)])]) mixed (.cons (d_bits_LeadingZeros64 N) .nil) .nil Tryz.func149 (by kernel_rfl) (by kernel_rfl)

def split_exact (N : Nat) (x0 x1 x2 : Int) : Option (Int × Int) :=
 
  (bits_Mul64 N (IntKind.u64.wrap x0) (IntKind.u64.wrap x1)).bind fun (r3 : Int × Int) =>
    (bits_Div64 N r3.fst r3.snd (IntKind.u64.wrap x2)).bind fun (r4 : Int × Int) =>
      some (IntKind.i64.wrap r4.fst, IntKind.i64.wrap r4.snd)
theorem d_split_exact (N : Nat) : DenF Tryz.prog 134 ⟨[.t_i64, .t_i64, .t_i64], [.t_i64, .t_i64], [[none], [none]], split_exact N⟩ :=
  den_of (N := N) (gam := [(148, ⟨[.t_u64, .t_u64], [.t_u64, .t_u64], [[none], [none]], bits_Mul64 N⟩), (149, ⟨[.t_u64, .t_u64, .t_u64], [.t_u64, .t_u64], [[none], [none]], bits_Div64 N⟩)]) (txt := []) (hints := []) mixed (.cons (d_bits_Mul64 N) (.cons (d_bits_Div64 N) .nil)) .nil Tryz.func134 (by kernel_rfl) (by kernel_rfl)

def split_Split (N : Nat) (x0 : Int) (x1 : List Int) : Option ((List Int) × Int) :=
 
  (split_check N x0 x1).bind fun (r2 : Int × Int) =>
    bif r2.snd != (0 : Int) then some ([], r2.snd)
    else
      bif
          true &&
            (decide ((↑x1.length : Int) ≤ (↑x1.length : Int)) &&
              decide ((↑x1.length : Int) * (8 : Int) ≤ (140737488355328 : Int))) then
        (some (List.replicate (↑x1.length : Int).toNat (0 : Int))).bind fun (r3 : List Int) =>
          bif
              true &&
                (decide ((↑x1.length : Int) ≤ (↑x1.length : Int)) &&
                  decide ((↑x1.length : Int) * (8 : Int) ≤ (140737488355328 : Int))) then
            (some (List.replicate (↑x1.length : Int).toNat (0 : Int))).bind fun (r4 : List Int) =>
              bif
                  true &&
                    (decide ((↑x1.length : Int) ≤ (↑x1.length : Int)) &&
                      decide ((↑x1.length : Int) * (8 : Int) ≤ (140737488355328 : Int))) then
                (some (List.replicate (↑x1.length : Int).toNat (0 : Int))).bind fun (r5 : List Int) =>
                  (whileF N
                        (fun (p6 : Int × Int × List Int × List Int × List Int) =>
                          bif decide (p6.snd.fst < (↑x1.length : Int)) then
                            bif decide ((0 : Int) ≤ p6.snd.fst) && decide (p6.snd.fst < (↑x1.length : Int)) then
                              (split_exact N x0 (x1.getD (Int.toNat p6.snd.fst) (0 : Int)) r2.fst).bind
                                fun (r7 : Int × Int) =>
                                bif
                                    decide ((0 : Int) ≤ p6.snd.fst) &&
                                      decide (p6.snd.fst < (↑(List.length p6.snd.snd.fst) : Int)) then
                                  (some (List.set p6.snd.snd.fst (Int.toNat p6.snd.fst) r7.fst)).bind
                                    fun (r8 : List Int) =>
                                    bif
                                        decide ((0 : Int) ≤ p6.snd.fst) &&
                                          decide (p6.snd.fst < (↑(List.length p6.snd.snd.snd.fst) : Int)) then
                                      (some (List.set p6.snd.snd.snd.fst (Int.toNat p6.snd.fst) r7.snd)).bind
                                        fun (r9 : List Int) =>
                                        bif
                                            decide ((0 : Int) ≤ p6.snd.fst) &&
                                              decide (p6.snd.fst < (↑(List.length p6.snd.snd.snd.snd) : Int)) then
                                          (some (List.set p6.snd.snd.snd.snd (Int.toNat p6.snd.fst) p6.snd.fst)).bind
                                            fun (r10 : List Int) =>
                                            bif
                                                decide ((0 : Int) ≤ p6.snd.fst) &&
                                                  decide (p6.snd.fst < (↑r8.length : Int)) then
                                              some
                                                (Sum.inl
                                                  (IntKind.i64.wrap (p6.fst - r8.getD (Int.toNat p6.snd.fst) (0 : Int)),
                                                    IntKind.i64.wrap (p6.snd.fst + (1 : Int)), r8, r9, r10))
                                            else none
                                        else none
                                    else none
                                else none
                            else none
                          else some (Sum.inr (p6.fst, p6.snd.snd)))
                        (x0, (0 : Int), r3, r4, r5)).bind
                    fun (r11 : Int × List Int × List Int × List Int) =>
                    (whileF N
                          (fun (p12 : Int × Int × List Int) =>
                            bif decide (p12.snd.fst ≤ (↑(List.length r11.snd.snd.snd) : Int)) then
                              (whileF N
                                    (fun (p13 : Int × List Int) =>
                                      bif decide (p13.fst < p12.snd.fst) then
                                        (whileF N
                                              (fun (p14 : Int × List Int) =>
                                                (bif decide (p14.fst > p12.fst) then
                                                      bif
                                                          decide ((0 : Int) ≤ p14.fst) &&
                                                            decide (p14.fst < (↑(List.length p14.snd) : Int)) then
                                                        bif
                                                            decide
                                                                ((0 : Int) ≤ IntKind.i64.wrap (p14.fst - (1 : Int))) &&
                                                              decide
                                                                (IntKind.i64.wrap (p14.fst - (1 : Int)) <
                                                                  (↑(List.length p14.snd) : Int)) then
                                                          bif
                                                              decide
                                                                  ((0 : Int) ≤
                                                                    List.getD p14.snd
                                                                      (IntKind.i64.wrap (p14.fst - (1 : Int))).toNat
                                                                      (0 : Int)) &&
                                                                decide
                                                                  (List.getD p14.snd
                                                                      (IntKind.i64.wrap (p14.fst - (1 : Int))).toNat
                                                                      (0 : Int) <
                                                                    (↑(List.length r11.snd.snd.fst) : Int)) then
                                                            bif
                                                                decide
                                                                    ((0 : Int) ≤
                                                                      List.getD p14.snd (Int.toNat p14.fst)
                                                                        (0 : Int)) &&
                                                                  decide
                                                                    (List.getD p14.snd (Int.toNat p14.fst) (0 : Int) <
                                                                      (↑(List.length r11.snd.snd.fst) : Int)) then
                                                              (cmp_Compare_int_ N
                                                                    (List.getD r11.snd.snd.fst
                                                                      (List.getD p14.snd
                                                                          (IntKind.i64.wrap (p14.fst - (1 : Int))).toNat
                                                                          (0 : Int)).toNat
                                                                      (0 : Int))
                                                                    (List.getD r11.snd.snd.fst
                                                                      (List.getD p14.snd (Int.toNat p14.fst)
                                                                          (0 : Int)).toNat
                                                                      (0 : Int))).bind
                                                                fun (r15 : Int) => some (decide (r15 < (0 : Int)))
                                                            else none
                                                          else none
                                                        else none
                                                      else none
                                                    else some false).bind
                                                  fun (r16 : Bool) =>
                                                  bif r16 then
                                                    bif
                                                        decide ((0 : Int) ≤ IntKind.i64.wrap (p14.fst - (1 : Int))) &&
                                                          decide
                                                            (IntKind.i64.wrap (p14.fst - (1 : Int)) <
                                                              (↑(List.length p14.snd) : Int)) then
                                                      bif
                                                          decide ((0 : Int) ≤ p14.fst) &&
                                                            decide (p14.fst < (↑(List.length p14.snd) : Int)) then
                                                        bif
                                                            decide ((0 : Int) ≤ p14.fst) &&
                                                              decide (p14.fst < (↑(List.length p14.snd) : Int)) then
                                                          (some
                                                                (List.set p14.snd (Int.toNat p14.fst)
                                                                  (List.getD p14.snd
                                                                    (IntKind.i64.wrap (p14.fst - (1 : Int))).toNat
                                                                    (0 : Int)))).bind
                                                            fun (r17 : List Int) =>
                                                            bif
                                                                decide
                                                                    ((0 : Int) ≤
                                                                      IntKind.i64.wrap (p14.fst - (1 : Int))) &&
                                                                  decide
                                                                    (IntKind.i64.wrap (p14.fst - (1 : Int)) <
                                                                      (↑r17.length : Int)) then
                                                              (some
                                                                    (r17.set
                                                                      (IntKind.i64.wrap (p14.fst - (1 : Int))).toNat
                                                                      (List.getD p14.snd (Int.toNat p14.fst)
                                                                        (0 : Int)))).bind
                                                                fun (r18 : List Int) =>
                                                                some
                                                                  (Sum.inl
                                                                    (IntKind.i64.wrap (p14.fst - (1 : Int)), r18))
                                                            else none
                                                        else none
                                                      else none
                                                    else none
                                                  else some (Sum.inr p14.snd))
                                              p13).bind
                                          fun (r19 : List Int) =>
                                          some (Sum.inl (IntKind.i64.wrap (p13.fst + (1 : Int)), r19))
                                      else some (Sum.inr p13.snd))
                                    (IntKind.i64.wrap (p12.fst + (1 : Int)), p12.snd.snd)).bind
                                fun (r20 : List Int) =>
                                some (Sum.inl (p12.snd.fst, IntKind.i64.wrap (p12.snd.fst + (20 : Int)), r20))
                            else some (Sum.inr (p12.fst, p12.snd.snd)))
                          ((0 : Int), (20 : Int), r11.snd.snd.snd)).bind
                      fun (r21 : Int × List Int) =>
                      (whileF N
                            (fun (p22 : Int × List Int) =>
                              bif decide (p22.fst < (↑(List.length r11.snd.snd.snd) : Int)) then
                                (whileF N
                                      (fun (p23 : Int × List Int) =>
                                        (bif decide (p23.fst > r21.fst) then
                                              bif
                                                  decide ((0 : Int) ≤ p23.fst) &&
                                                    decide (p23.fst < (↑(List.length p23.snd) : Int)) then
                                                bif
                                                    decide ((0 : Int) ≤ IntKind.i64.wrap (p23.fst - (1 : Int))) &&
                                                      decide
                                                        (IntKind.i64.wrap (p23.fst - (1 : Int)) <
                                                          (↑(List.length p23.snd) : Int)) then
                                                  bif
                                                      decide
                                                          ((0 : Int) ≤
                                                            List.getD p23.snd
                                                              (IntKind.i64.wrap (p23.fst - (1 : Int))).toNat
                                                              (0 : Int)) &&
                                                        decide
                                                          (List.getD p23.snd
                                                              (IntKind.i64.wrap (p23.fst - (1 : Int))).toNat (0 : Int) <
                                                            (↑(List.length r11.snd.snd.fst) : Int)) then
                                                    bif
                                                        decide
                                                            ((0 : Int) ≤
                                                              List.getD p23.snd (Int.toNat p23.fst) (0 : Int)) &&
                                                          decide
                                                            (List.getD p23.snd (Int.toNat p23.fst) (0 : Int) <
                                                              (↑(List.length r11.snd.snd.fst) : Int)) then
                                                      (cmp_Compare_int_ N
                                                            (List.getD r11.snd.snd.fst
                                                              (List.getD p23.snd
                                                                  (IntKind.i64.wrap (p23.fst - (1 : Int))).toNat
                                                                  (0 : Int)).toNat
                                                              (0 : Int))
                                                            (List.getD r11.snd.snd.fst
                                                              (List.getD p23.snd (Int.toNat p23.fst) (0 : Int)).toNat
                                                              (0 : Int))).bind
                                                        fun (r24 : Int) => some (decide (r24 < (0 : Int)))
                                                    else none
                                                  else none
                                                else none
                                              else none
                                            else some false).bind
                                          fun (r25 : Bool) =>
                                          bif r25 then
                                            bif
                                                decide ((0 : Int) ≤ IntKind.i64.wrap (p23.fst - (1 : Int))) &&
                                                  decide
                                                    (IntKind.i64.wrap (p23.fst - (1 : Int)) <
                                                      (↑(List.length p23.snd) : Int)) then
                                              bif
                                                  decide ((0 : Int) ≤ p23.fst) &&
                                                    decide (p23.fst < (↑(List.length p23.snd) : Int)) then
                                                bif
                                                    decide ((0 : Int) ≤ p23.fst) &&
                                                      decide (p23.fst < (↑(List.length p23.snd) : Int)) then
                                                  (some
                                                        (List.set p23.snd (Int.toNat p23.fst)
                                                          (List.getD p23.snd
                                                            (IntKind.i64.wrap (p23.fst - (1 : Int))).toNat
                                                            (0 : Int)))).bind
                                                    fun (r26 : List Int) =>
                                                    bif
                                                        decide ((0 : Int) ≤ IntKind.i64.wrap (p23.fst - (1 : Int))) &&
                                                          decide
                                                            (IntKind.i64.wrap (p23.fst - (1 : Int)) <
                                                              (↑r26.length : Int)) then
                                                      (some
                                                            (r26.set (IntKind.i64.wrap (p23.fst - (1 : Int))).toNat
                                                              (List.getD p23.snd (Int.toNat p23.fst) (0 : Int)))).bind
                                                        fun (r27 : List Int) =>
                                                        some (Sum.inl (IntKind.i64.wrap (p23.fst - (1 : Int)), r27))
                                                    else none
                                                else none
                                              else none
                                            else none
                                          else some (Sum.inr p23.snd))
                                      p22).bind
                                  fun (r28 : List Int) => some (Sum.inl (IntKind.i64.wrap (p22.fst + (1 : Int)), r28))
                              else some (Sum.inr p22.snd))
                            (IntKind.i64.wrap (r21.fst + (1 : Int)), r21.snd)).bind
                        fun (r29 : List Int) =>
                        (whileF N
                              (fun (p30 : Int × List Int) =>
                                bif decide (p30.fst < (↑(List.length r11.snd.snd.snd) : Int)) then
                                  (whileF N
                                        (fun (p31 : Int × Int × List Int) =>
                                          bif decide (p31.snd.fst ≤ (↑(List.length r11.snd.snd.snd) : Int)) then none
                                          else some (Sum.inr (p31.fst, p31.snd.snd)))
                                        ((0 : Int), IntKind.i64.wrap ((2 : Int) * p30.fst), p30.snd)).bind
                                    fun (r32 : Int × List Int) =>
                                    (bif
                                            decide
                                              (IntKind.i64.wrap (r32.fst + p30.fst) <
                                                (↑(List.length r11.snd.snd.snd) : Int)) then
                                          none
                                        else some r32.snd).bind
                                      fun (r33 : List Int) =>
                                      some (Sum.inl (IntKind.i64.wrap (p30.fst * (2 : Int)), r33))
                                else some (Sum.inr p30.snd))
                              ((20 : Int), r29)).bind
                          fun (r34 : List Int) =>
                          bif decide ((0 : Int) ≤ r11.fst) && decide (r11.fst ≤ (↑r34.length : Int)) then
                            (whileF N
                                  (fun (p35 : Int × List Int) =>
                                    bif decide (p35.fst < (↑(List.take (Int.toNat r11.fst) r34).length : Int)) then
                                      bif
                                          decide ((0 : Int) ≤ p35.fst) &&
                                            decide (p35.fst < (↑(List.take (Int.toNat r11.fst) r34).length : Int)) then
                                        bif
                                            decide
                                                ((0 : Int) ≤
                                                  (List.take (Int.toNat r11.fst) r34).getD (Int.toNat p35.fst)
                                                    (0 : Int)) &&
                                              decide
                                                ((List.take (Int.toNat r11.fst) r34).getD (Int.toNat p35.fst)
                                                    (0 : Int) <
                                                  (↑(List.length p35.snd) : Int)) then
                                          bif
                                              decide
                                                  ((0 : Int) ≤
                                                    (List.take (Int.toNat r11.fst) r34).getD (Int.toNat p35.fst)
                                                      (0 : Int)) &&
                                                decide
                                                  ((List.take (Int.toNat r11.fst) r34).getD (Int.toNat p35.fst)
                                                      (0 : Int) <
                                                    (↑(List.length p35.snd) : Int)) then
                                            (some
                                                  (List.set p35.snd
                                                    ((List.take (Int.toNat r11.fst) r34).getD (Int.toNat p35.fst)
                                                        (0 : Int)).toNat
                                                    (IntKind.i64.wrap
                                                      (List.getD p35.snd
                                                          ((List.take (Int.toNat r11.fst) r34).getD (Int.toNat p35.fst)
                                                              (0 : Int)).toNat
                                                          (0 : Int) +
                                                        (1 : Int))))).bind
                                              fun (r36 : List Int) =>
                                              some (Sum.inl (IntKind.i64.wrap (p35.fst + (1 : Int)), r36))
                                          else none
                                        else none
                                      else none
                                    else some (Sum.inr p35.snd))
                                  ((0 : Int), r11.snd.fst)).bind
                              fun (r37 : List Int) => some (r37, (0 : Int))
                          else none
              else none
          else none
      else none
theorem d_split_Split (N : Nat) : DenF Tryz.prog 110 ⟨[.t_i64, .l_i64], [.l_i64, .t_i64], [[some 3], [none]], split_Split N⟩ :=
  den_of (N := N) (gam := [(133, ⟨[.t_i64, .l_i64], [.t_i64, .t_i64], [[none], [none]], split_check N⟩), (134, ⟨[.t_i64, .t_i64, .t_i64], [.t_i64, .t_i64], [[none], [none]], split_exact N⟩), (119, ⟨[.t_i64, .t_i64], [.t_i64], [[none]], cmp_Compare_int_ N⟩)]) (txt := [(136, Tryz.f136), (135, Tryz.f135), (150, Tryz.f150), (154, Tryz.f154)]) (hints := [(110, [([0, 1, 0, 1, 1, 1, 1, 1, 1, 1], ⟨[0, 6, 8, 9, 10, 35, 36], [.reg 11 .t_i64 [none], .reg 37 .t_i64 [none], .rowr 8 .l_i64, .rowc 9 0 .l_i64, .rowr 10 .l_i64], [(.ex 0, [.reg 11 .t_i64 [none], .rowr 8 .l_i64, .rowc 9 0 .l_i64, .rowr 10 .l_i64])], []⟩), ([0, 1, 0, 1, 1, 1, 1, 1, 1, 1, 1, 1], ⟨[8, 71, 72], [.reg 73 .t_i64 [none], .rowr 8 .l_i64], [(.ex 2, [.rowr 8 .l_i64])], []⟩)]), (150, [([0, 0, 1, 1], ⟨[0, 1, 2, 6], [.reg 7 .t_i64 [none], .reg 8 .t_i64 [none], .rowr 0 .l_i64], [(.ex 0, [.reg 7 .t_i64 [none], .rowr 0 .l_i64])], []⟩), ([0, 1, 1, 1, 1], ⟨[0, 1, 2], [.reg 6 .t_i64 [none], .rowr 0 .l_i64], [(.ex 2, [.rowr 0 .l_i64])], []⟩), ([0, 0, 1, 0, 1, 0, 0, 1, 1, 1, 1], ⟨[0, 1, 2, 6], [.reg 7 .t_i64 [none], .reg 8 .t_i64 [none], .rowr 0 .l_i64], [(.ex 4, [.reg 7 .t_i64 [none], .rowr 0 .l_i64])], []⟩), ([1, 1, 0, 1, 1, 0, 1, 0, 0, 1, 1, 1, 1], ⟨[0, 1, 2, 6], [], [(.nrm, [.rowr 0 .l_i64])], []⟩)]), (154, [([0, 1], ⟨[0, 1, 2, 3], [.reg 8 .t_i64 [none], .rowr 0 .l_i64], [(.ex 0, [.rowr 0 .l_i64])], []⟩), ([0, 1, 0, 0, 1, 0, 0, 1], ⟨[0, 1, 2, 3, 8], [.reg 9 .t_i64 [none], .rowr 0 .l_i64], [(.ex 2, [.rowr 0 .l_i64])], []⟩), ([0, 0, 0, 0, 1, 0, 0, 1, 0, 0, 1], ⟨[0, 1, 2, 3, 8, 9], [], [(.nrm, [.reg 34 .t_bool [none]])], []⟩)])]) mixed (.cons (d_split_check N) (.cons (d_split_exact N) (.cons (d_cmp_Compare_int_ N) .nil))) (.cons Tryz.func136 (.cons Tryz.func135 (.cons Tryz.func150 (.cons Tryz.func154 .nil)))) Tryz.func110 (by kernel_rfl) (by kernel_rfl)
end Go.Proofs.YtkhkblihdabnoaaGreat
