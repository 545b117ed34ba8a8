/- Written by a program (gen.py, asm.py): what each function computes, as a plain function, and that its text computes it. No condition. -/
import Derived.Test.YtoniopgegcngpaaSg
import Derived.Test.YtoniopgegcngpaaCmo
namespace Go.Proofs.Ytoniopgegcngpaa
open Go.Cm Go.Proofs
set_option linter.unusedVariables false
set_option maxRecDepth 100000

def pond_Spare (N : Nat) (x0 : List Pond) : Option Int :=
 
  (whileF N
        (fun (p1 : Int × Int) =>
          bif decide (p1.snd < (↑x0.length : Int)) then
            bif decide ((0 : Int) ≤ p1.snd) && decide (p1.snd < (↑x0.length : Int)) then
              some
                (Sum.inl
                  (IntKind.i64.wrap
                      (p1.fst +
                        IntKind.i64.wrap
                          ((x0.getD (Int.toNat p1.snd) z_Pond).Volume - (x0.getD (Int.toNat p1.snd) z_Pond).Least)),
                    IntKind.i64.wrap (p1.snd + (1 : Int))))
            else none
          else some (Sum.inr p1.fst))
        ((0 : Int), (0 : Int))).bind
    fun (r2 : Int) => some r2
theorem d_pond_Spare (N : Nat) : DenF Try.prog 13 ⟨[.l_Pond], [.t_i64], [[none]], pond_Spare N⟩ :=
  den_of (N := N) (gam := []) (txt := []) (hints := [(13, [([0, 1, 0, 1, 1], ⟨[6, 7], [.reg 3 .t_i64 [none], .reg 8 .t_i64 [none]], [(.ex 0, [.reg 3 .t_i64 [none]])], []⟩)])]) mixed .nil .nil Try.func13 (by kernel_rfl) (by kernel_rfl)

def sl_Clone_Pond (N : Nat) (l : List Pond) : Option (List Pond) := bif decide ((0 + l.length) * 40 ≤ 140737488355328) then some l else none
theorem ca_sl_Clone_Pond (N : Nat) (l : List Pond) (b : Bool) : ev (⟨Try.prog, N, lkF []⟩ : Ctx) (⟨lkT [], lkH []⟩ : Env2) 100 false 24 Try.f24.ntmps [] ((clonePat (Try.f24.body.getD .skip)).getD (.skip, 0, default, default, .skip, .skip)).2.2.2.2.1 (Ress [TI.l_Pond]) ⟨(4, .lit (.bool b)) :: (3, .sl ⟨TI.t_Pond, l⟩) :: [(2, .row 0), (0, .sl ⟨TI.t_Pond, l⟩)], [], [(0, .row false 38 ⟨TI.t_Pond, []⟩)], [], 1⟩ (seqK (fun s => ev (⟨Try.prog, N, lkF []⟩ : Ctx) (⟨lkT [], lkH []⟩ : Env2) 100 false 24 Try.f24.ntmps [] ((clonePat (Try.f24.body.getD .skip)).getD (.skip, 0, default, default, .skip, .skip)).2.2.2.2.2 (Ress [TI.l_Pond]) s (finK Try.prog [TI.l_Pond] [[some 38]] Try.f24.results.toList)) (finK Try.prog [TI.l_Pond] [[some 38]] Try.f24.results.toList)) = cond b (some []) (sl_Clone_Pond N l) := by kernel_rfl
theorem d_sl_Clone_Pond (N : Nat) : DenF Try.prog 24 ⟨[TI.l_Pond], [TI.l_Pond], [[some 38]], sl_Clone_Pond N⟩ := by
  refine clone_den (cx := (⟨Try.prog, N, lkF []⟩ : Ctx)) (e2 := (⟨lkT [], lkH []⟩ : Env2)) (c := (Try.f24.body.getD .skip)) (R0 := ((clonePat (Try.f24.body.getD .skip)).getD (.skip, 0, default, default, .skip, .skip)).1) (id := ((clonePat (Try.f24.body.getD .skip)).getD (.skip, 0, default, default, .skip, .skip)).2.1) (o1 := ((clonePat (Try.f24.body.getD .skip)).getD (.skip, 0, default, default, .skip, .skip)).2.2.1) (o2 := ((clonePat (Try.f24.body.getD .skip)).getD (.skip, 0, default, default, .skip, .skip)).2.2.2.1) (C := ((clonePat (Try.f24.body.getD .skip)).getD (.skip, 0, default, default, .skip, .skip)).2.2.2.2.1) (T := ((clonePat (Try.f24.body.getD .skip)).getD (.skip, 0, default, default, .skip, .skip)).2.2.2.2.2) (t := 22) (t' := 22) (e := 38) mixed (fun f F h => by cases h) (fun f F h => by cases h) Try.func24 (by kernel_rfl) (by kernel_rfl) (by kernel_rfl) (by kernel_rfl) (by kernel_rfl) (by kernel_rfl) (by kernel_rfl) (by kernel_rfl) (by kernel_rfl) (by kernel_rfl) (Nat.le_of_ble_eq_true (by kernel_rfl)) rfl (fun q => ⟨[(2, .row 0), (0, .sl q)], [], [(0, .row false 38 ⟨TI.t_Pond, []⟩)], [], 1⟩) (fun cs h => ?_) (fun q => by kernel_rfl) (fun q => rfl) (fun x q b r hx hF hb => ?_)
  · obtain ⟨t0, ts, rfl, h0, h⟩ := fits_cons h
    obtain rfl := fits_nil h
    refine ⟨⟨TI.t_Pond, gl TI.t_Pond t0⟩, by rw [fit_sl h0], ?_⟩
    exact Nat.le_of_ble_eq_true rfl
  · injection hx with hx
    injection hx with hx
    subst hx
    rw [show _ = _ from ca_sl_Clone_Pond N x b]
    cases b with
    | false => exact hF
    | true =>
      have hx0 : x = [] := List.eq_nil_of_length_eq_zero (hb rfl)
      subst hx0
      exact hF

def split_plus (N : Nat) (x0 x1 : Int) : Option (Int × Bool) :=
 
  (bif decide (x1 > IntKind.i64.wrap ((1099511627776 : Int) - x0)) then some true
      else some (decide (x1 < IntKind.i64.wrap ((-1099511627776 : Int) - x0)))).bind
    fun (r2 : Bool) => bif r2 then some ((0 : Int), false) else some (IntKind.i64.wrap (x0 + x1), true)
theorem d_split_plus (N : Nat) : DenF Try.prog 40 ⟨[.t_i64, .t_i64], [.t_i64, .t_bool], [[none], [none]], split_plus N⟩ :=
  den_of (N := N) (gam := []) (txt := []) (hints := [(40, [([0, 0, 1], ⟨[0, 1], [], [(.nrm, [.reg 15 .t_bool [none]])], []⟩)])]) mixed .nil .nil Try.func40 (by kernel_rfl) (by kernel_rfl)

def split_check_1 (N : Nat) (x0 : Int) : Option Int :=
  some x0
theorem d_split_check_1 (N : Nat) : DenF Try.prog 35 ⟨[.t_i64], [.t_i64], [[none]], split_check_1 N⟩ :=
  den_of (N := N) (gam := []) (txt := []) (hints := []) mixed .nil .nil Try.func35 (by kernel_rfl) (by kernel_rfl)

def split_check (N : Nat) (x0 : Int) (x1 : List Int) : Option (Int × Int) :=
 
  bif decide ((↑x1.length : Int) > (64 : Int)) then some ((0 : Int), (4 : Int))
  else
    (bif decide (x0 < (0 : Int)) then some true else some (decide (x0 > (1099511627776 : Int)))).bind fun (r2 : Bool) =>
      bif r2 then some ((0 : Int), (2 : Int))
      else
        (whileF N
              (fun (p3 : Int) =>
                bif decide (p3 < (↑x1.length : Int)) then
                  bif decide ((0 : Int) ≤ p3) && decide (p3 < (↑x1.length : Int)) then
                    (bif decide (x1.getD p3.toNat (0 : Int) < (0 : Int)) then some true
                        else some (decide (x1.getD p3.toNat (0 : Int) > (1000000000 : Int)))).bind
                      fun (r4 : Bool) =>
                      bif r4 then some (Sum.inr (Sum.inr ((0 : Int), (2 : Int))))
                      else some (Sum.inl (IntKind.i64.wrap (p3 + (1 : Int))))
                  else none
                else some (Sum.inr (Sum.inl ())))
              (0 : Int)).bind
          fun (r5 : Unit ⊕ Int × Int) =>
          Sum.elim
            (fun (p6 : Unit) =>
              (whileF N
                    (fun (p7 : Int × Int) =>
                      bif decide (p7.snd < (↑x1.length : Int)) then
                        bif decide ((0 : Int) ≤ p7.snd) && decide (p7.snd < (↑x1.length : Int)) then
                          (split_check_1 N (x1.getD (Int.toNat p7.snd) (0 : Int))).bind fun (r8 : Int) =>
                            (split_plus N p7.fst r8).bind fun (r9 : Int × Bool) =>
                              bif !r9.snd then some (Sum.inr (Sum.inr ((0 : Int), false)))
                              else some (Sum.inl (r9.fst, IntKind.i64.wrap (p7.snd + (1 : Int))))
                        else none
                      else some (Sum.inr (Sum.inl p7.fst)))
                    ((0 : Int), (0 : Int))).bind
                fun (r10 : Int ⊕ Int × Bool) =>
                Sum.elim
                  (fun (p11 : Int) => bif p11 == (0 : Int) then some ((0 : Int), (1 : Int)) else some (p11, (0 : Int)))
                  (fun (p12 : Int × Bool) =>
                    bif p12.fst == (0 : Int) then some ((0 : Int), (1 : Int)) else some (p12.fst, (0 : Int)))
                  r10)
            (fun (p13 : Int × Int) => some p13) r5
theorem d_split_check (N : Nat) : DenF Try.prog 29 ⟨[.t_i64, .l_i64], [.t_i64, .t_i64], [[none], [none]], split_check N⟩ :=
  den_of (N := N) (gam := [(40, ⟨[.t_i64, .t_i64], [.t_i64, .t_bool], [[none], [none]], split_plus N⟩), (35, ⟨[.t_i64], [.t_i64], [[none]], split_check_1 N⟩)]) (txt := [(34, Try.f34)]) (hints := [(29, [([0, 0, 1, 1], ⟨[1], [], [(.nrm, [.reg 18 .t_bool [none]])], []⟩), ([0, 1, 0, 1, 1, 1], ⟨[1, 19, 20], [.reg 21 .t_i64 [none]], [(.ex 0, []), (.ret, [.reg 4 .t_i64 [none], .reg 5 .t_i64 [none]])], []⟩), ([0, 1, 0, 0, 1, 1, 0, 0, 1, 0, 1, 1, 1], ⟨[1, 19, 20, 21], [], [(.nrm, [.reg 30 .t_bool [none]])], []⟩)]), (34, [([0, 1, 0, 1, 1], ⟨[1, 10, 11], [.reg 6 .t_i64 [none], .reg 12 .t_i64 [none]], [(.ex 0, [.reg 6 .t_i64 [none]]), (.ret, [.reg 4 .t_i64 [none], .reg 5 .t_bool [none]])], []⟩)])]) mixed (.cons (d_split_plus N) (.cons (d_split_check_1 N) .nil)) (.cons Try.func34 .nil) Try.func29 (by kernel_rfl) (by kernel_rfl)

def bits_Mul64 (N : Nat) (x0 x1 : Int) : Option (Int × Int) :=
 
  some
    (IntKind.u64.wrap
        (IntKind.u64.wrap
            (IntKind.u64.wrap (shrI IntKind.u64 x0 (32 : Int) * shrI IntKind.u64 x1 (32 : Int)) +
              shrI IntKind.u64
                (IntKind.u64.wrap
                  (IntKind.u64.wrap (shrI IntKind.u64 x0 (32 : Int) * andI IntKind.u64 x1 (4294967295 : Int)) +
                    shrI IntKind.u64
                      (IntKind.u64.wrap
                        (andI IntKind.u64 x0 (4294967295 : Int) * andI IntKind.u64 x1 (4294967295 : Int)))
                      (32 : Int)))
                (32 : Int)) +
          shrI IntKind.u64
            (IntKind.u64.wrap
              (andI IntKind.u64
                  (IntKind.u64.wrap
                    (IntKind.u64.wrap (shrI IntKind.u64 x0 (32 : Int) * andI IntKind.u64 x1 (4294967295 : Int)) +
                      shrI IntKind.u64
                        (IntKind.u64.wrap
                          (andI IntKind.u64 x0 (4294967295 : Int) * andI IntKind.u64 x1 (4294967295 : Int)))
                        (32 : Int)))
                  (4294967295 : Int) +
                IntKind.u64.wrap (andI IntKind.u64 x0 (4294967295 : Int) * shrI IntKind.u64 x1 (32 : Int))))
            (32 : Int)),
      IntKind.u64.wrap (x0 * x1))
theorem d_bits_Mul64 (N : Nat) : DenF Try.prog 36 ⟨[.t_u64, .t_u64], [.t_u64, .t_u64], [[none], [none]], bits_Mul64 N⟩ :=
  den_of (N := N) (gam := []) (txt := []) (hints := []) mixed .nil .nil Try.func36 (by kernel_rfl) (by kernel_rfl)

def bits_Len64 (N : Nat) (x0 : Int) : Option Int :=
 
  (bif decide (x0 ≥ (4294967296 : Int)) then some (shrI IntKind.u64 x0 (32 : Int), (32 : Int))
      else some (x0, (0 : Int))).bind
    fun (r1 : Int × Int) =>
    (bif decide (r1.fst ≥ (65536 : Int)) then
          some (shrI IntKind.u64 r1.fst (16 : Int), IntKind.i64.wrap (r1.snd + (16 : Int)))
        else some r1).bind
      fun (r2 : Int × Int) =>
      (bif decide (r2.fst ≥ (256 : Int)) then
            some (shrI IntKind.u64 r2.fst (8 : Int), IntKind.i64.wrap (r2.snd + (8 : Int)))
          else some r2).bind
        fun (r3 : Int × Int) =>
        bif decide ((0 : Int) ≤ IntKind.u8.wrap r3.fst) && decide (IntKind.u8.wrap r3.fst < (256 : Int)) then
          some
            (IntKind.i64.wrap
              (r3.snd +
                IntKind.i64.wrap
                  (byteAt
                    (ByteArray.mk
                      (Array.mk
                        [UInt8.ofBitVec
                            (BitVec.ofFin (Fin.Internal.ofNat 256 (BitVec.ofNat._proof_1 8) 0)),
                          UInt8.ofBitVec
                            (BitVec.ofFin (Fin.Internal.ofNat 256 (BitVec.ofNat._proof_1 8) 1)),
                          UInt8.ofBitVec
                            (BitVec.ofFin (Fin.Internal.ofNat 256 (BitVec.ofNat._proof_1 8) 2)),
                          UInt8.ofBitVec
                            (BitVec.ofFin (Fin.Internal.ofNat 256 (BitVec.ofNat._proof_1 8) 2)),
                          UInt8.ofBitVec
                            (BitVec.ofFin (Fin.Internal.ofNat 256 (BitVec.ofNat._proof_1 8) 3)),
                          UInt8.ofBitVec
                            (BitVec.ofFin (Fin.Internal.ofNat 256 (BitVec.ofNat._proof_1 8) 3)),
                          UInt8.ofBitVec
                            (BitVec.ofFin (Fin.Internal.ofNat 256 (BitVec.ofNat._proof_1 8) 3)),
                          UInt8.ofBitVec
                            (BitVec.ofFin (Fin.Internal.ofNat 256 (BitVec.ofNat._proof_1 8) 3)),
                          UInt8.ofBitVec
                            (BitVec.ofFin (Fin.Internal.ofNat 256 (BitVec.ofNat._proof_1 8) 4)),
                          UInt8.ofBitVec
                            (BitVec.ofFin (Fin.Internal.ofNat 256 (BitVec.ofNat._proof_1 8) 4)),
                          UInt8.ofBitVec
                            (BitVec.ofFin (Fin.Internal.ofNat 256 (BitVec.ofNat._proof_1 8) 4)),
                          UInt8.ofBitVec
                            (BitVec.ofFin (Fin.Internal.ofNat 256 (BitVec.ofNat._proof_1 8) 4)),
                          UInt8.ofBitVec
                            (BitVec.ofFin (Fin.Internal.ofNat 256 (BitVec.ofNat._proof_1 8) 4)),
                          UInt8.ofBitVec
                            (BitVec.ofFin (Fin.Internal.ofNat 256 (BitVec.ofNat._proof_1 8) 4)),
                          UInt8.ofBitVec
                            (BitVec.ofFin (Fin.Internal.ofNat 256 (BitVec.ofNat._proof_1 8) 4)),
                          UInt8.ofBitVec
                            (BitVec.ofFin (Fin.Internal.ofNat 256 (BitVec.ofNat._proof_1 8) 4)),
                          UInt8.ofBitVec
                            (BitVec.ofFin (Fin.Internal.ofNat 256 (BitVec.ofNat._proof_1 8) 5)),
                          UInt8.ofBitVec
                            (BitVec.ofFin (Fin.Internal.ofNat 256 (BitVec.ofNat._proof_1 8) 5)),
                          UInt8.ofBitVec
                            (BitVec.ofFin (Fin.Internal.ofNat 256 (BitVec.ofNat._proof_1 8) 5)),
                          UInt8.ofBitVec
                            (BitVec.ofFin (Fin.Internal.ofNat 256 (BitVec.ofNat._proof_1 8) 5)),
                          UInt8.ofBitVec
                            (BitVec.ofFin (Fin.Internal.ofNat 256 (BitVec.ofNat._proof_1 8) 5)),
                          UInt8.ofBitVec
                            (BitVec.ofFin (Fin.Internal.ofNat 256 (BitVec.ofNat._proof_1 8) 5)),
                          UInt8.ofBitVec
                            (BitVec.ofFin (Fin.Internal.ofNat 256 (BitVec.ofNat._proof_1 8) 5)),
                          UInt8.ofBitVec
                            (BitVec.ofFin (Fin.Internal.ofNat 256 (BitVec.ofNat._proof_1 8) 5)),
                          UInt8.ofBitVec
                            (BitVec.ofFin (Fin.Internal.ofNat 256 (BitVec.ofNat._proof_1 8) 5)),
                          UInt8.ofBitVec
                            (BitVec.ofFin (Fin.Internal.ofNat 256 (BitVec.ofNat._proof_1 8) 5)),
                          UInt8.ofBitVec
                            (BitVec.ofFin (Fin.Internal.ofNat 256 (BitVec.ofNat._proof_1 8) 5)),
                          UInt8.ofBitVec
                            (BitVec.ofFin (Fin.Internal.ofNat 256 (BitVec.ofNat._proof_1 8) 5)),
                          UInt8.ofBitVec
                            (BitVec.ofFin (Fin.Internal.ofNat 256 (BitVec.ofNat._proof_1 8) 5)),
                          UInt8.ofBitVec
                            (BitVec.ofFin (Fin.Internal.ofNat 256 (BitVec.ofNat._proof_1 8) 5)),
                          UInt8.ofBitVec
                            (BitVec.ofFin (Fin.Internal.ofNat 256 (BitVec.ofNat._proof_1 8) 5)),
                          UInt8.ofBitVec
                            (BitVec.ofFin (Fin.Internal.ofNat 256 (BitVec.ofNat._proof_1 8) 5)),
                          UInt8.ofBitVec
                            (BitVec.ofFin (Fin.Internal.ofNat 256 (BitVec.ofNat._proof_1 8) 6)),
                          UInt8.ofBitVec
                            (BitVec.ofFin (Fin.Internal.ofNat 256 (BitVec.ofNat._proof_1 8) 6)),
                          UInt8.ofBitVec
                            (BitVec.ofFin (Fin.Internal.ofNat 256 (BitVec.ofNat._proof_1 8) 6)),
                          UInt8.ofBitVec
                            (BitVec.ofFin (Fin.Internal.ofNat 256 (BitVec.ofNat._proof_1 8) 6)),
                          UInt8.ofBitVec
                            (BitVec.ofFin (Fin.Internal.ofNat 256 (BitVec.ofNat._proof_1 8) 6)),
                          UInt8.ofBitVec
                            (BitVec.ofFin (Fin.Internal.ofNat 256 (BitVec.ofNat._proof_1 8) 6)),
                          UInt8.ofBitVec
                            (BitVec.ofFin (Fin.Internal.ofNat 256 (BitVec.ofNat._proof_1 8) 6)),
                          UInt8.ofBitVec
                            (BitVec.ofFin (Fin.Internal.ofNat 256 (BitVec.ofNat._proof_1 8) 6)),
                          UInt8.ofBitVec
                            (BitVec.ofFin (Fin.Internal.ofNat 256 (BitVec.ofNat._proof_1 8) 6)),
                          UInt8.ofBitVec
                            (BitVec.ofFin (Fin.Internal.ofNat 256 (BitVec.ofNat._proof_1 8) 6)),
                          UInt8.ofBitVec
                            (BitVec.ofFin (Fin.Internal.ofNat 256 (BitVec.ofNat._proof_1 8) 6)),
                          UInt8.ofBitVec
                            (BitVec.ofFin (Fin.Internal.ofNat 256 (BitVec.ofNat._proof_1 8) 6)),
                          UInt8.ofBitVec
                            (BitVec.ofFin (Fin.Internal.ofNat 256 (BitVec.ofNat._proof_1 8) 6)),
                          UInt8.ofBitVec
                            (BitVec.ofFin (Fin.Internal.ofNat 256 (BitVec.ofNat._proof_1 8) 6)),
                          UInt8.ofBitVec
                            (BitVec.ofFin (Fin.Internal.ofNat 256 (BitVec.ofNat._proof_1 8) 6)),
                          UInt8.ofBitVec
                            (BitVec.ofFin (Fin.Internal.ofNat 256 (BitVec.ofNat._proof_1 8) 6)),
                          UInt8.ofBitVec
                            (BitVec.ofFin (Fin.Internal.ofNat 256 (BitVec.ofNat._proof_1 8) 6)),
                          UInt8.ofBitVec
                            (BitVec.ofFin (Fin.Internal.ofNat 256 (BitVec.ofNat._proof_1 8) 6)),
                          UInt8.ofBitVec
                            (BitVec.ofFin (Fin.Internal.ofNat 256 (BitVec.ofNat._proof_1 8) 6)),
                          UInt8.ofBitVec
                            (BitVec.ofFin (Fin.Internal.ofNat 256 (BitVec.ofNat._proof_1 8) 6)),
                          UInt8.ofBitVec
                            (BitVec.ofFin (Fin.Internal.ofNat 256 (BitVec.ofNat._proof_1 8) 6)),
                          UInt8.ofBitVec
                            (BitVec.ofFin (Fin.Internal.ofNat 256 (BitVec.ofNat._proof_1 8) 6)),
                          UInt8.ofBitVec
                            (BitVec.ofFin (Fin.Internal.ofNat 256 (BitVec.ofNat._proof_1 8) 6)),
                          UInt8.ofBitVec
                            (BitVec.ofFin (Fin.Internal.ofNat 256 (BitVec.ofNat._proof_1 8) 6)),
                          UInt8.ofBitVec
                            (BitVec.ofFin (Fin.Internal.ofNat 256 (BitVec.ofNat._proof_1 8) 6)),
                          UInt8.ofBitVec
                            (BitVec.ofFin (Fin.Internal.ofNat 256 (BitVec.ofNat._proof_1 8) 6)),
                          UInt8.ofBitVec
                            (BitVec.ofFin (Fin.Internal.ofNat 256 (BitVec.ofNat._proof_1 8) 6)),
                          UInt8.ofBitVec
                            (BitVec.ofFin (Fin.Internal.ofNat 256 (BitVec.ofNat._proof_1 8) 6)),
                          UInt8.ofBitVec
                            (BitVec.ofFin (Fin.Internal.ofNat 256 (BitVec.ofNat._proof_1 8) 6)),
                          UInt8.ofBitVec
                            (BitVec.ofFin (Fin.Internal.ofNat 256 (BitVec.ofNat._proof_1 8) 6)),
                          UInt8.ofBitVec
                            (BitVec.ofFin (Fin.Internal.ofNat 256 (BitVec.ofNat._proof_1 8) 6)),
                          UInt8.ofBitVec
                            (BitVec.ofFin (Fin.Internal.ofNat 256 (BitVec.ofNat._proof_1 8) 6)),
                          UInt8.ofBitVec
                            (BitVec.ofFin (Fin.Internal.ofNat 256 (BitVec.ofNat._proof_1 8) 7)),
                          UInt8.ofBitVec
                            (BitVec.ofFin (Fin.Internal.ofNat 256 (BitVec.ofNat._proof_1 8) 7)),
                          UInt8.ofBitVec
                            (BitVec.ofFin (Fin.Internal.ofNat 256 (BitVec.ofNat._proof_1 8) 7)),
                          UInt8.ofBitVec
                            (BitVec.ofFin (Fin.Internal.ofNat 256 (BitVec.ofNat._proof_1 8) 7)),
                          UInt8.ofBitVec
                            (BitVec.ofFin (Fin.Internal.ofNat 256 (BitVec.ofNat._proof_1 8) 7)),
                          UInt8.ofBitVec
                            (BitVec.ofFin (Fin.Internal.ofNat 256 (BitVec.ofNat._proof_1 8) 7)),
                          UInt8.ofBitVec
                            (BitVec.ofFin (Fin.Internal.ofNat 256 (BitVec.ofNat._proof_1 8) 7)),
                          UInt8.ofBitVec
                            (BitVec.ofFin (Fin.Internal.ofNat 256 (BitVec.ofNat._proof_1 8) 7)),
                          UInt8.ofBitVec
                            (BitVec.ofFin (Fin.Internal.ofNat 256 (BitVec.ofNat._proof_1 8) 7)),
                          UInt8.ofBitVec
                            (BitVec.ofFin (Fin.Internal.ofNat 256 (BitVec.ofNat._proof_1 8) 7)),
                          UInt8.ofBitVec
                            (BitVec.ofFin (Fin.Internal.ofNat 256 (BitVec.ofNat._proof_1 8) 7)),
                          UInt8.ofBitVec
                            (BitVec.ofFin (Fin.Internal.ofNat 256 (BitVec.ofNat._proof_1 8) 7)),
                          UInt8.ofBitVec
                            (BitVec.ofFin (Fin.Internal.ofNat 256 (BitVec.ofNat._proof_1 8) 7)),
                          UInt8.ofBitVec
                            (BitVec.ofFin (Fin.Internal.ofNat 256 (BitVec.ofNat._proof_1 8) 7)),
                          UInt8.ofBitVec
                            (BitVec.ofFin (Fin.Internal.ofNat 256 (BitVec.ofNat._proof_1 8) 7)),
                          UInt8.ofBitVec
                            (BitVec.ofFin (Fin.Internal.ofNat 256 (BitVec.ofNat._proof_1 8) 7)),
                          UInt8.ofBitVec
                            (BitVec.ofFin (Fin.Internal.ofNat 256 (BitVec.ofNat._proof_1 8) 7)),
                          UInt8.ofBitVec
                            (BitVec.ofFin (Fin.Internal.ofNat 256 (BitVec.ofNat._proof_1 8) 7)),
                          UInt8.ofBitVec
                            (BitVec.ofFin (Fin.Internal.ofNat 256 (BitVec.ofNat._proof_1 8) 7)),
                          UInt8.ofBitVec
                            (BitVec.ofFin (Fin.Internal.ofNat 256 (BitVec.ofNat._proof_1 8) 7)),
                          UInt8.ofBitVec
                            (BitVec.ofFin (Fin.Internal.ofNat 256 (BitVec.ofNat._proof_1 8) 7)),
                          UInt8.ofBitVec
                            (BitVec.ofFin (Fin.Internal.ofNat 256 (BitVec.ofNat._proof_1 8) 7)),
                          UInt8.ofBitVec
                            (BitVec.ofFin (Fin.Internal.ofNat 256 (BitVec.ofNat._proof_1 8) 7)),
                          UInt8.ofBitVec
                            (BitVec.ofFin (Fin.Internal.ofNat 256 (BitVec.ofNat._proof_1 8) 7)),
                          UInt8.ofBitVec
                            (BitVec.ofFin (Fin.Internal.ofNat 256 (BitVec.ofNat._proof_1 8) 7)),
                          UInt8.ofBitVec
                            (BitVec.ofFin (Fin.Internal.ofNat 256 (BitVec.ofNat._proof_1 8) 7)),
                          UInt8.ofBitVec
                            (BitVec.ofFin (Fin.Internal.ofNat 256 (BitVec.ofNat._proof_1 8) 7)),
                          UInt8.ofBitVec
                            (BitVec.ofFin (Fin.Internal.ofNat 256 (BitVec.ofNat._proof_1 8) 7)),
                          UInt8.ofBitVec
                            (BitVec.ofFin (Fin.Internal.ofNat 256 (BitVec.ofNat._proof_1 8) 7)),
                          UInt8.ofBitVec
                            (BitVec.ofFin (Fin.Internal.ofNat 256 (BitVec.ofNat._proof_1 8) 7)),
                          UInt8.ofBitVec
                            (BitVec.ofFin (Fin.Internal.ofNat 256 (BitVec.ofNat._proof_1 8) 7)),
                          UInt8.ofBitVec
                            (BitVec.ofFin (Fin.Internal.ofNat 256 (BitVec.ofNat._proof_1 8) 7)),
                          UInt8.ofBitVec
                            (BitVec.ofFin (Fin.Internal.ofNat 256 (BitVec.ofNat._proof_1 8) 7)),
                          UInt8.ofBitVec
                            (BitVec.ofFin (Fin.Internal.ofNat 256 (BitVec.ofNat._proof_1 8) 7)),
                          UInt8.ofBitVec
                            (BitVec.ofFin (Fin.Internal.ofNat 256 (BitVec.ofNat._proof_1 8) 7)),
                          UInt8.ofBitVec
                            (BitVec.ofFin (Fin.Internal.ofNat 256 (BitVec.ofNat._proof_1 8) 7)),
                          UInt8.ofBitVec
                            (BitVec.ofFin (Fin.Internal.ofNat 256 (BitVec.ofNat._proof_1 8) 7)),
                          UInt8.ofBitVec
                            (BitVec.ofFin (Fin.Internal.ofNat 256 (BitVec.ofNat._proof_1 8) 7)),
                          UInt8.ofBitVec
                            (BitVec.ofFin (Fin.Internal.ofNat 256 (BitVec.ofNat._proof_1 8) 7)),
                          UInt8.ofBitVec
                            (BitVec.ofFin (Fin.Internal.ofNat 256 (BitVec.ofNat._proof_1 8) 7)),
                          UInt8.ofBitVec
                            (BitVec.ofFin (Fin.Internal.ofNat 256 (BitVec.ofNat._proof_1 8) 7)),
                          UInt8.ofBitVec
                            (BitVec.ofFin (Fin.Internal.ofNat 256 (BitVec.ofNat._proof_1 8) 7)),
                          UInt8.ofBitVec
                            (BitVec.ofFin (Fin.Internal.ofNat 256 (BitVec.ofNat._proof_1 8) 7)),
                          UInt8.ofBitVec
                            (BitVec.ofFin (Fin.Internal.ofNat 256 (BitVec.ofNat._proof_1 8) 7)),
                          UInt8.ofBitVec
                            (BitVec.ofFin (Fin.Internal.ofNat 256 (BitVec.ofNat._proof_1 8) 7)),
                          UInt8.ofBitVec
                            (BitVec.ofFin (Fin.Internal.ofNat 256 (BitVec.ofNat._proof_1 8) 7)),
                          UInt8.ofBitVec
                            (BitVec.ofFin (Fin.Internal.ofNat 256 (BitVec.ofNat._proof_1 8) 7)),
                          UInt8.ofBitVec
                            (BitVec.ofFin (Fin.Internal.ofNat 256 (BitVec.ofNat._proof_1 8) 7)),
                          UInt8.ofBitVec
                            (BitVec.ofFin (Fin.Internal.ofNat 256 (BitVec.ofNat._proof_1 8) 7)),
                          UInt8.ofBitVec
                            (BitVec.ofFin (Fin.Internal.ofNat 256 (BitVec.ofNat._proof_1 8) 7)),
                          UInt8.ofBitVec
                            (BitVec.ofFin (Fin.Internal.ofNat 256 (BitVec.ofNat._proof_1 8) 7)),
                          UInt8.ofBitVec
                            (BitVec.ofFin (Fin.Internal.ofNat 256 (BitVec.ofNat._proof_1 8) 7)),
                          UInt8.ofBitVec
                            (BitVec.ofFin (Fin.Internal.ofNat 256 (BitVec.ofNat._proof_1 8) 7)),
                          UInt8.ofBitVec
                            (BitVec.ofFin (Fin.Internal.ofNat 256 (BitVec.ofNat._proof_1 8) 7)),
                          UInt8.ofBitVec
                            (BitVec.ofFin (Fin.Internal.ofNat 256 (BitVec.ofNat._proof_1 8) 7)),
                          UInt8.ofBitVec
                            (BitVec.ofFin (Fin.Internal.ofNat 256 (BitVec.ofNat._proof_1 8) 7)),
                          UInt8.ofBitVec
                            (BitVec.ofFin (Fin.Internal.ofNat 256 (BitVec.ofNat._proof_1 8) 7)),
                          UInt8.ofBitVec
                            (BitVec.ofFin (Fin.Internal.ofNat 256 (BitVec.ofNat._proof_1 8) 7)),
                          UInt8.ofBitVec
                            (BitVec.ofFin (Fin.Internal.ofNat 256 (BitVec.ofNat._proof_1 8) 7)),
                          UInt8.ofBitVec
                            (BitVec.ofFin (Fin.Internal.ofNat 256 (BitVec.ofNat._proof_1 8) 7)),
                          UInt8.ofBitVec
                            (BitVec.ofFin (Fin.Internal.ofNat 256 (BitVec.ofNat._proof_1 8) 7)),
                          UInt8.ofBitVec
                            (BitVec.ofFin (Fin.Internal.ofNat 256 (BitVec.ofNat._proof_1 8) 7)),
                          UInt8.ofBitVec
                            (BitVec.ofFin (Fin.Internal.ofNat 256 (BitVec.ofNat._proof_1 8) 7)),
                          UInt8.ofBitVec
                            (BitVec.ofFin (Fin.Internal.ofNat 256 (BitVec.ofNat._proof_1 8) 7)),
                          UInt8.ofBitVec
                            (BitVec.ofFin (Fin.Internal.ofNat 256 (BitVec.ofNat._proof_1 8) 8)),
                          UInt8.ofBitVec
                            (BitVec.ofFin (Fin.Internal.ofNat 256 (BitVec.ofNat._proof_1 8) 8)),
                          UInt8.ofBitVec
                            (BitVec.ofFin (Fin.Internal.ofNat 256 (BitVec.ofNat._proof_1 8) 8)),
                          UInt8.ofBitVec
                            (BitVec.ofFin (Fin.Internal.ofNat 256 (BitVec.ofNat._proof_1 8) 8)),
                          UInt8.ofBitVec
                            (BitVec.ofFin (Fin.Internal.ofNat 256 (BitVec.ofNat._proof_1 8) 8)),
                          UInt8.ofBitVec
                            (BitVec.ofFin (Fin.Internal.ofNat 256 (BitVec.ofNat._proof_1 8) 8)),
                          UInt8.ofBitVec
                            (BitVec.ofFin (Fin.Internal.ofNat 256 (BitVec.ofNat._proof_1 8) 8)),
                          UInt8.ofBitVec
                            (BitVec.ofFin (Fin.Internal.ofNat 256 (BitVec.ofNat._proof_1 8) 8)),
                          UInt8.ofBitVec
                            (BitVec.ofFin (Fin.Internal.ofNat 256 (BitVec.ofNat._proof_1 8) 8)),
                          UInt8.ofBitVec
                            (BitVec.ofFin (Fin.Internal.ofNat 256 (BitVec.ofNat._proof_1 8) 8)),
                          UInt8.ofBitVec
                            (BitVec.ofFin (Fin.Internal.ofNat 256 (BitVec.ofNat._proof_1 8) 8)),
                          UInt8.ofBitVec
                            (BitVec.ofFin (Fin.Internal.ofNat 256 (BitVec.ofNat._proof_1 8) 8)),
                          UInt8.ofBitVec
                            (BitVec.ofFin (Fin.Internal.ofNat 256 (BitVec.ofNat._proof_1 8) 8)),
                          UInt8.ofBitVec
                            (BitVec.ofFin (Fin.Internal.ofNat 256 (BitVec.ofNat._proof_1 8) 8)),
                          UInt8.ofBitVec
                            (BitVec.ofFin (Fin.Internal.ofNat 256 (BitVec.ofNat._proof_1 8) 8)),
                          UInt8.ofBitVec
                            (BitVec.ofFin (Fin.Internal.ofNat 256 (BitVec.ofNat._proof_1 8) 8)),
                          UInt8.ofBitVec
                            (BitVec.ofFin (Fin.Internal.ofNat 256 (BitVec.ofNat._proof_1 8) 8)),
                          UInt8.ofBitVec
                            (BitVec.ofFin (Fin.Internal.ofNat 256 (BitVec.ofNat._proof_1 8) 8)),
                          UInt8.ofBitVec
                            (BitVec.ofFin (Fin.Internal.ofNat 256 (BitVec.ofNat._proof_1 8) 8)),
                          UInt8.ofBitVec
                            (BitVec.ofFin (Fin.Internal.ofNat 256 (BitVec.ofNat._proof_1 8) 8)),
                          UInt8.ofBitVec
                            (BitVec.ofFin (Fin.Internal.ofNat 256 (BitVec.ofNat._proof_1 8) 8)),
                          UInt8.ofBitVec
                            (BitVec.ofFin (Fin.Internal.ofNat 256 (BitVec.ofNat._proof_1 8) 8)),
                          UInt8.ofBitVec
                            (BitVec.ofFin (Fin.Internal.ofNat 256 (BitVec.ofNat._proof_1 8) 8)),
                          UInt8.ofBitVec
                            (BitVec.ofFin (Fin.Internal.ofNat 256 (BitVec.ofNat._proof_1 8) 8)),
                          UInt8.ofBitVec
                            (BitVec.ofFin (Fin.Internal.ofNat 256 (BitVec.ofNat._proof_1 8) 8)),
                          UInt8.ofBitVec
                            (BitVec.ofFin (Fin.Internal.ofNat 256 (BitVec.ofNat._proof_1 8) 8)),
                          UInt8.ofBitVec
                            (BitVec.ofFin (Fin.Internal.ofNat 256 (BitVec.ofNat._proof_1 8) 8)),
                          UInt8.ofBitVec
                            (BitVec.ofFin (Fin.Internal.ofNat 256 (BitVec.ofNat._proof_1 8) 8)),
                          UInt8.ofBitVec
                            (BitVec.ofFin (Fin.Internal.ofNat 256 (BitVec.ofNat._proof_1 8) 8)),
                          UInt8.ofBitVec
                            (BitVec.ofFin (Fin.Internal.ofNat 256 (BitVec.ofNat._proof_1 8) 8)),
                          UInt8.ofBitVec
                            (BitVec.ofFin (Fin.Internal.ofNat 256 (BitVec.ofNat._proof_1 8) 8)),
                          UInt8.ofBitVec
                            (BitVec.ofFin (Fin.Internal.ofNat 256 (BitVec.ofNat._proof_1 8) 8)),
                          UInt8.ofBitVec
                            (BitVec.ofFin (Fin.Internal.ofNat 256 (BitVec.ofNat._proof_1 8) 8)),
                          UInt8.ofBitVec
                            (BitVec.ofFin (Fin.Internal.ofNat 256 (BitVec.ofNat._proof_1 8) 8)),
                          UInt8.ofBitVec
                            (BitVec.ofFin (Fin.Internal.ofNat 256 (BitVec.ofNat._proof_1 8) 8)),
                          UInt8.ofBitVec
                            (BitVec.ofFin (Fin.Internal.ofNat 256 (BitVec.ofNat._proof_1 8) 8)),
                          UInt8.ofBitVec
                            (BitVec.ofFin (Fin.Internal.ofNat 256 (BitVec.ofNat._proof_1 8) 8)),
                          UInt8.ofBitVec
                            (BitVec.ofFin (Fin.Internal.ofNat 256 (BitVec.ofNat._proof_1 8) 8)),
                          UInt8.ofBitVec
                            (BitVec.ofFin (Fin.Internal.ofNat 256 (BitVec.ofNat._proof_1 8) 8)),
                          UInt8.ofBitVec
                            (BitVec.ofFin (Fin.Internal.ofNat 256 (BitVec.ofNat._proof_1 8) 8)),
                          UInt8.ofBitVec
                            (BitVec.ofFin (Fin.Internal.ofNat 256 (BitVec.ofNat._proof_1 8) 8)),
                          UInt8.ofBitVec
                            (BitVec.ofFin (Fin.Internal.ofNat 256 (BitVec.ofNat._proof_1 8) 8)),
                          UInt8.ofBitVec
                            (BitVec.ofFin (Fin.Internal.ofNat 256 (BitVec.ofNat._proof_1 8) 8)),
                          UInt8.ofBitVec
                            (BitVec.ofFin (Fin.Internal.ofNat 256 (BitVec.ofNat._proof_1 8) 8)),
                          UInt8.ofBitVec
                            (BitVec.ofFin (Fin.Internal.ofNat 256 (BitVec.ofNat._proof_1 8) 8)),
                          UInt8.ofBitVec
                            (BitVec.ofFin (Fin.Internal.ofNat 256 (BitVec.ofNat._proof_1 8) 8)),
                          UInt8.ofBitVec
                            (BitVec.ofFin (Fin.Internal.ofNat 256 (BitVec.ofNat._proof_1 8) 8)),
                          UInt8.ofBitVec
                            (BitVec.ofFin (Fin.Internal.ofNat 256 (BitVec.ofNat._proof_1 8) 8)),
                          UInt8.ofBitVec
                            (BitVec.ofFin (Fin.Internal.ofNat 256 (BitVec.ofNat._proof_1 8) 8)),
                          UInt8.ofBitVec
                            (BitVec.ofFin (Fin.Internal.ofNat 256 (BitVec.ofNat._proof_1 8) 8)),
                          UInt8.ofBitVec
                            (BitVec.ofFin (Fin.Internal.ofNat 256 (BitVec.ofNat._proof_1 8) 8)),
                          UInt8.ofBitVec
                            (BitVec.ofFin (Fin.Internal.ofNat 256 (BitVec.ofNat._proof_1 8) 8)),
                          UInt8.ofBitVec
                            (BitVec.ofFin (Fin.Internal.ofNat 256 (BitVec.ofNat._proof_1 8) 8)),
                          UInt8.ofBitVec
                            (BitVec.ofFin (Fin.Internal.ofNat 256 (BitVec.ofNat._proof_1 8) 8)),
                          UInt8.ofBitVec
                            (BitVec.ofFin (Fin.Internal.ofNat 256 (BitVec.ofNat._proof_1 8) 8)),
                          UInt8.ofBitVec
                            (BitVec.ofFin (Fin.Internal.ofNat 256 (BitVec.ofNat._proof_1 8) 8)),
                          UInt8.ofBitVec
                            (BitVec.ofFin (Fin.Internal.ofNat 256 (BitVec.ofNat._proof_1 8) 8)),
                          UInt8.ofBitVec
                            (BitVec.ofFin (Fin.Internal.ofNat 256 (BitVec.ofNat._proof_1 8) 8)),
                          UInt8.ofBitVec
                            (BitVec.ofFin (Fin.Internal.ofNat 256 (BitVec.ofNat._proof_1 8) 8)),
                          UInt8.ofBitVec
                            (BitVec.ofFin (Fin.Internal.ofNat 256 (BitVec.ofNat._proof_1 8) 8)),
                          UInt8.ofBitVec
                            (BitVec.ofFin (Fin.Internal.ofNat 256 (BitVec.ofNat._proof_1 8) 8)),
                          UInt8.ofBitVec
                            (BitVec.ofFin (Fin.Internal.ofNat 256 (BitVec.ofNat._proof_1 8) 8)),
                          UInt8.ofBitVec
                            (BitVec.ofFin (Fin.Internal.ofNat 256 (BitVec.ofNat._proof_1 8) 8)),
                          UInt8.ofBitVec
                            (BitVec.ofFin (Fin.Internal.ofNat 256 (BitVec.ofNat._proof_1 8) 8)),
                          UInt8.ofBitVec
                            (BitVec.ofFin (Fin.Internal.ofNat 256 (BitVec.ofNat._proof_1 8) 8)),
                          UInt8.ofBitVec
                            (BitVec.ofFin (Fin.Internal.ofNat 256 (BitVec.ofNat._proof_1 8) 8)),
                          UInt8.ofBitVec
                            (BitVec.ofFin (Fin.Internal.ofNat 256 (BitVec.ofNat._proof_1 8) 8)),
                          UInt8.ofBitVec
                            (BitVec.ofFin (Fin.Internal.ofNat 256 (BitVec.ofNat._proof_1 8) 8)),
                          UInt8.ofBitVec
                            (BitVec.ofFin (Fin.Internal.ofNat 256 (BitVec.ofNat._proof_1 8) 8)),
                          UInt8.ofBitVec
                            (BitVec.ofFin (Fin.Internal.ofNat 256 (BitVec.ofNat._proof_1 8) 8)),
                          UInt8.ofBitVec
                            (BitVec.ofFin (Fin.Internal.ofNat 256 (BitVec.ofNat._proof_1 8) 8)),
                          UInt8.ofBitVec
                            (BitVec.ofFin (Fin.Internal.ofNat 256 (BitVec.ofNat._proof_1 8) 8)),
                          UInt8.ofBitVec
                            (BitVec.ofFin (Fin.Internal.ofNat 256 (BitVec.ofNat._proof_1 8) 8)),
                          UInt8.ofBitVec
                            (BitVec.ofFin (Fin.Internal.ofNat 256 (BitVec.ofNat._proof_1 8) 8)),
                          UInt8.ofBitVec
                            (BitVec.ofFin (Fin.Internal.ofNat 256 (BitVec.ofNat._proof_1 8) 8)),
                          UInt8.ofBitVec
                            (BitVec.ofFin (Fin.Internal.ofNat 256 (BitVec.ofNat._proof_1 8) 8)),
                          UInt8.ofBitVec
                            (BitVec.ofFin (Fin.Internal.ofNat 256 (BitVec.ofNat._proof_1 8) 8)),
                          UInt8.ofBitVec
                            (BitVec.ofFin (Fin.Internal.ofNat 256 (BitVec.ofNat._proof_1 8) 8)),
                          UInt8.ofBitVec
                            (BitVec.ofFin (Fin.Internal.ofNat 256 (BitVec.ofNat._proof_1 8) 8)),
                          UInt8.ofBitVec
                            (BitVec.ofFin (Fin.Internal.ofNat 256 (BitVec.ofNat._proof_1 8) 8)),
                          UInt8.ofBitVec
                            (BitVec.ofFin (Fin.Internal.ofNat 256 (BitVec.ofNat._proof_1 8) 8)),
                          UInt8.ofBitVec
                            (BitVec.ofFin (Fin.Internal.ofNat 256 (BitVec.ofNat._proof_1 8) 8)),
                          UInt8.ofBitVec
                            (BitVec.ofFin (Fin.Internal.ofNat 256 (BitVec.ofNat._proof_1 8) 8)),
                          UInt8.ofBitVec
                            (BitVec.ofFin (Fin.Internal.ofNat 256 (BitVec.ofNat._proof_1 8) 8)),
                          UInt8.ofBitVec
                            (BitVec.ofFin (Fin.Internal.ofNat 256 (BitVec.ofNat._proof_1 8) 8)),
                          UInt8.ofBitVec
                            (BitVec.ofFin (Fin.Internal.ofNat 256 (BitVec.ofNat._proof_1 8) 8)),
                          UInt8.ofBitVec
                            (BitVec.ofFin (Fin.Internal.ofNat 256 (BitVec.ofNat._proof_1 8) 8)),
                          UInt8.ofBitVec
                            (BitVec.ofFin (Fin.Internal.ofNat 256 (BitVec.ofNat._proof_1 8) 8)),
                          UInt8.ofBitVec
                            (BitVec.ofFin (Fin.Internal.ofNat 256 (BitVec.ofNat._proof_1 8) 8)),
                          UInt8.ofBitVec
                            (BitVec.ofFin (Fin.Internal.ofNat 256 (BitVec.ofNat._proof_1 8) 8)),
                          UInt8.ofBitVec
                            (BitVec.ofFin (Fin.Internal.ofNat 256 (BitVec.ofNat._proof_1 8) 8)),
                          UInt8.ofBitVec
                            (BitVec.ofFin (Fin.Internal.ofNat 256 (BitVec.ofNat._proof_1 8) 8)),
                          UInt8.ofBitVec
                            (BitVec.ofFin (Fin.Internal.ofNat 256 (BitVec.ofNat._proof_1 8) 8)),
                          UInt8.ofBitVec
                            (BitVec.ofFin (Fin.Internal.ofNat 256 (BitVec.ofNat._proof_1 8) 8)),
                          UInt8.ofBitVec
                            (BitVec.ofFin (Fin.Internal.ofNat 256 (BitVec.ofNat._proof_1 8) 8)),
                          UInt8.ofBitVec
                            (BitVec.ofFin (Fin.Internal.ofNat 256 (BitVec.ofNat._proof_1 8) 8)),
                          UInt8.ofBitVec
                            (BitVec.ofFin (Fin.Internal.ofNat 256 (BitVec.ofNat._proof_1 8) 8)),
                          UInt8.ofBitVec
                            (BitVec.ofFin (Fin.Internal.ofNat 256 (BitVec.ofNat._proof_1 8) 8)),
                          UInt8.ofBitVec
                            (BitVec.ofFin (Fin.Internal.ofNat 256 (BitVec.ofNat._proof_1 8) 8)),
                          UInt8.ofBitVec
                            (BitVec.ofFin (Fin.Internal.ofNat 256 (BitVec.ofNat._proof_1 8) 8)),
                          UInt8.ofBitVec
                            (BitVec.ofFin (Fin.Internal.ofNat 256 (BitVec.ofNat._proof_1 8) 8)),
                          UInt8.ofBitVec
                            (BitVec.ofFin (Fin.Internal.ofNat 256 (BitVec.ofNat._proof_1 8) 8)),
                          UInt8.ofBitVec
                            (BitVec.ofFin (Fin.Internal.ofNat 256 (BitVec.ofNat._proof_1 8) 8)),
                          UInt8.ofBitVec
                            (BitVec.ofFin (Fin.Internal.ofNat 256 (BitVec.ofNat._proof_1 8) 8)),
                          UInt8.ofBitVec
                            (BitVec.ofFin (Fin.Internal.ofNat 256 (BitVec.ofNat._proof_1 8) 8)),
                          UInt8.ofBitVec
                            (BitVec.ofFin (Fin.Internal.ofNat 256 (BitVec.ofNat._proof_1 8) 8)),
                          UInt8.ofBitVec
                            (BitVec.ofFin (Fin.Internal.ofNat 256 (BitVec.ofNat._proof_1 8) 8)),
                          UInt8.ofBitVec
                            (BitVec.ofFin (Fin.Internal.ofNat 256 (BitVec.ofNat._proof_1 8) 8)),
                          UInt8.ofBitVec
                            (BitVec.ofFin (Fin.Internal.ofNat 256 (BitVec.ofNat._proof_1 8) 8)),
                          UInt8.ofBitVec
                            (BitVec.ofFin (Fin.Internal.ofNat 256 (BitVec.ofNat._proof_1 8) 8)),
                          UInt8.ofBitVec
                            (BitVec.ofFin (Fin.Internal.ofNat 256 (BitVec.ofNat._proof_1 8) 8)),
                          UInt8.ofBitVec
                            (BitVec.ofFin (Fin.Internal.ofNat 256 (BitVec.ofNat._proof_1 8) 8)),
                          UInt8.ofBitVec
                            (BitVec.ofFin (Fin.Internal.ofNat 256 (BitVec.ofNat._proof_1 8) 8)),
                          UInt8.ofBitVec
                            (BitVec.ofFin (Fin.Internal.ofNat 256 (BitVec.ofNat._proof_1 8) 8)),
                          UInt8.ofBitVec
                            (BitVec.ofFin (Fin.Internal.ofNat 256 (BitVec.ofNat._proof_1 8) 8)),
                          UInt8.ofBitVec
                            (BitVec.ofFin (Fin.Internal.ofNat 256 (BitVec.ofNat._proof_1 8) 8)),
                          UInt8.ofBitVec
                            (BitVec.ofFin (Fin.Internal.ofNat 256 (BitVec.ofNat._proof_1 8) 8)),
                          UInt8.ofBitVec
                            (BitVec.ofFin (Fin.Internal.ofNat 256 (BitVec.ofNat._proof_1 8) 8)),
                          UInt8.ofBitVec
                            (BitVec.ofFin (Fin.Internal.ofNat 256 (BitVec.ofNat._proof_1 8) 8)),
                          UInt8.ofBitVec
                            (BitVec.ofFin (Fin.Internal.ofNat 256 (BitVec.ofNat._proof_1 8) 8)),
                          UInt8.ofBitVec
                            (BitVec.ofFin (Fin.Internal.ofNat 256 (BitVec.ofNat._proof_1 8) 8)),
                          UInt8.ofBitVec
                            (BitVec.ofFin (Fin.Internal.ofNat 256 (BitVec.ofNat._proof_1 8) 8)),
                          UInt8.ofBitVec
                            (BitVec.ofFin (Fin.Internal.ofNat 256 (BitVec.ofNat._proof_1 8) 8)),
                          UInt8.ofBitVec
                            (BitVec.ofFin (Fin.Internal.ofNat 256 (BitVec.ofNat._proof_1 8) 8)),
                          UInt8.ofBitVec
                            (BitVec.ofFin (Fin.Internal.ofNat 256 (BitVec.ofNat._proof_1 8) 8)),
                          UInt8.ofBitVec
                            (BitVec.ofFin (Fin.Internal.ofNat 256 (BitVec.ofNat._proof_1 8) 8)),
                          UInt8.ofBitVec
                            (BitVec.ofFin (Fin.Internal.ofNat 256 (BitVec.ofNat._proof_1 8) 8)),
                          UInt8.ofBitVec
                            (BitVec.ofFin
                              (Fin.Internal.ofNat 256 (BitVec.ofNat._proof_1 8) 8))]))
                    (IntKind.u8.wrap r3.fst))))
        else none
theorem d_bits_Len64 (N : Nat) : DenF Try.prog 44 ⟨[.t_u64], [.t_i64], [[none]], bits_Len64 N⟩ :=
  den_of (N := N) (gam := []) (txt := []) (hints := [(44, [([1, 0, 1], ⟨[], [], [(.nrm, [.reg 0 .t_u64 [none], .reg 2 .t_i64 [none]])], []⟩), ([1, 0, 1, 1], ⟨[], [], [(.nrm, [.reg 0 .t_u64 [none], .reg 2 .t_i64 [none]])], []⟩), ([1, 0, 1, 1, 1], ⟨[], [], [(.nrm, [.reg 0 .t_u64 [none], .reg 2 .t_i64 [none]])], []⟩)])]) mixed .nil .nil Try.func44 (by kernel_rfl) (by kernel_rfl)

def bits_LeadingZeros64 (N : Nat) (x0 : Int) : Option Int :=
  (bits_Len64 N x0).bind fun (r1 : Int) => some (IntKind.i64.wrap ((64 : Int) - r1))
theorem d_bits_LeadingZeros64 (N : Nat) : DenF Try.prog 41 ⟨[.t_u64], [.t_i64], [[none]], bits_LeadingZeros64 N⟩ :=
  den_of (N := N) (gam := [(44, ⟨[.t_u64], [.t_i64], [[none]], bits_Len64 N⟩)]) (txt := []) (hints := []) mixed (.cons (d_bits_Len64 N) .nil) .nil Try.func41 (by kernel_rfl) (by kernel_rfl)

def bits_Div64 (N : Nat) (x0 x1 x2 : Int) : Option (Int × Int) :=
 
  (bif x2 == (0 : Int) then none else some ()).bind fun (r3 : Unit) =>
    (bif decide (x2 ≤ x0) then none else some ()).bind fun (r4 : Unit) =>
      bif x0 == (0 : Int) then
        bif x2 != (0 : Int) then bif x2 != (0 : Int) then some (IntKind.u64.wrap (x1.tdiv x2), x1.tmod x2) else none
        else none
      else
        (bits_LeadingZeros64 N x2).bind fun (r5 : Int) =>
          bif decide ((0 : Int) ≤ IntKind.u64.wrap r5) then
            bif decide ((0 : Int) ≤ IntKind.u64.wrap r5) then
              bif decide ((0 : Int) ≤ IntKind.u64.wrap ((64 : Int) - IntKind.u64.wrap r5)) then
                bif decide ((0 : Int) ≤ IntKind.u64.wrap r5) then
                  bif shrI IntKind.u64 (shlI IntKind.u64 x2 (IntKind.u64.wrap r5)) (32 : Int) != (0 : Int) then
                    (whileF N
                          (fun (p6 : Int × Int) =>
                            (bif decide (p6.fst ≥ (4294967296 : Int)) then some true
                                else
                                  some
                                    (decide
                                      (IntKind.u64.wrap
                                          (p6.fst *
                                            andI IntKind.u64 (shlI IntKind.u64 x2 (IntKind.u64.wrap r5))
                                              (4294967295 : Int)) >
                                        IntKind.u64.wrap
                                          (IntKind.u64.wrap ((4294967296 : Int) * p6.snd) +
                                            shrI IntKind.u64 (shlI IntKind.u64 x1 (IntKind.u64.wrap r5))
                                              (32 : Int))))).bind
                              fun (r7 : Bool) =>
                              bif r7 then
                                bif
                                    decide
                                      (IntKind.u64.wrap
                                          (p6.snd +
                                            shrI IntKind.u64 (shlI IntKind.u64 x2 (IntKind.u64.wrap r5)) (32 : Int)) ≥
                                        (4294967296 : Int)) then
                                  some (Sum.inr (IntKind.u64.wrap (p6.fst - (1 : Int))))
                                else
                                  some
                                    (Sum.inl
                                      (IntKind.u64.wrap (p6.fst - (1 : Int)),
                                        IntKind.u64.wrap
                                          (p6.snd +
                                            shrI IntKind.u64 (shlI IntKind.u64 x2 (IntKind.u64.wrap r5)) (32 : Int))))
                              else some (Sum.inr p6.fst))
                          (IntKind.u64.wrap
                              ((orI IntKind.u64 (shlI IntKind.u64 x0 (IntKind.u64.wrap r5))
                                    (shrI IntKind.u64 x1 (IntKind.u64.wrap ((64 : Int) - IntKind.u64.wrap r5)))).tdiv
                                (shrI IntKind.u64 (shlI IntKind.u64 x2 (IntKind.u64.wrap r5)) (32 : Int))),
                            IntKind.u64.wrap
                              (orI IntKind.u64 (shlI IntKind.u64 x0 (IntKind.u64.wrap r5))
                                  (shrI IntKind.u64 x1 (IntKind.u64.wrap ((64 : Int) - IntKind.u64.wrap r5))) -
                                IntKind.u64.wrap
                                  (IntKind.u64.wrap
                                      ((orI IntKind.u64 (shlI IntKind.u64 x0 (IntKind.u64.wrap r5))
                                            (shrI IntKind.u64 x1
                                              (IntKind.u64.wrap ((64 : Int) - IntKind.u64.wrap r5)))).tdiv
                                        (shrI IntKind.u64 (shlI IntKind.u64 x2 (IntKind.u64.wrap r5)) (32 : Int))) *
                                    shrI IntKind.u64 (shlI IntKind.u64 x2 (IntKind.u64.wrap r5)) (32 : Int))))).bind
                      fun (r8 : Int) =>
                      bif shrI IntKind.u64 (shlI IntKind.u64 x2 (IntKind.u64.wrap r5)) (32 : Int) != (0 : Int) then
                        (whileF N
                              (fun (p9 : Int × Int) =>
                                (bif decide (p9.snd ≥ (4294967296 : Int)) then some true
                                    else
                                      some
                                        (decide
                                          (IntKind.u64.wrap
                                              (p9.snd *
                                                andI IntKind.u64 (shlI IntKind.u64 x2 (IntKind.u64.wrap r5))
                                                  (4294967295 : Int)) >
                                            IntKind.u64.wrap
                                              (IntKind.u64.wrap ((4294967296 : Int) * p9.fst) +
                                                andI IntKind.u64 (shlI IntKind.u64 x1 (IntKind.u64.wrap r5))
                                                  (4294967295 : Int))))).bind
                                  fun (r10 : Bool) =>
                                  bif r10 then
                                    bif
                                        decide
                                          (IntKind.u64.wrap
                                              (p9.fst +
                                                shrI IntKind.u64 (shlI IntKind.u64 x2 (IntKind.u64.wrap r5))
                                                  (32 : Int)) ≥
                                            (4294967296 : Int)) then
                                      some (Sum.inr (IntKind.u64.wrap (p9.snd - (1 : Int))))
                                    else
                                      some
                                        (Sum.inl
                                          (IntKind.u64.wrap
                                              (p9.fst +
                                                shrI IntKind.u64 (shlI IntKind.u64 x2 (IntKind.u64.wrap r5))
                                                  (32 : Int)),
                                            IntKind.u64.wrap (p9.snd - (1 : Int))))
                                  else some (Sum.inr p9.snd))
                              (IntKind.u64.wrap
                                  (IntKind.u64.wrap
                                      (IntKind.u64.wrap
                                          (IntKind.u64.wrap
                                              (orI IntKind.u64 (shlI IntKind.u64 x0 (IntKind.u64.wrap r5))
                                                  (shrI IntKind.u64 x1
                                                    (IntKind.u64.wrap ((64 : Int) - IntKind.u64.wrap r5))) *
                                                (4294967296 : Int)) +
                                            shrI IntKind.u64 (shlI IntKind.u64 x1 (IntKind.u64.wrap r5)) (32 : Int)) -
                                        IntKind.u64.wrap (r8 * shlI IntKind.u64 x2 (IntKind.u64.wrap r5))) -
                                    IntKind.u64.wrap
                                      (IntKind.u64.wrap
                                          ((IntKind.u64.wrap
                                                (IntKind.u64.wrap
                                                    (IntKind.u64.wrap
                                                        (orI IntKind.u64 (shlI IntKind.u64 x0 (IntKind.u64.wrap r5))
                                                            (shrI IntKind.u64 x1
                                                              (IntKind.u64.wrap ((64 : Int) - IntKind.u64.wrap r5))) *
                                                          (4294967296 : Int)) +
                                                      shrI IntKind.u64 (shlI IntKind.u64 x1 (IntKind.u64.wrap r5))
                                                        (32 : Int)) -
                                                  IntKind.u64.wrap
                                                    (r8 * shlI IntKind.u64 x2 (IntKind.u64.wrap r5)))).tdiv
                                            (shrI IntKind.u64 (shlI IntKind.u64 x2 (IntKind.u64.wrap r5)) (32 : Int))) *
                                        shrI IntKind.u64 (shlI IntKind.u64 x2 (IntKind.u64.wrap r5)) (32 : Int))),
                                IntKind.u64.wrap
                                  ((IntKind.u64.wrap
                                        (IntKind.u64.wrap
                                            (IntKind.u64.wrap
                                                (orI IntKind.u64 (shlI IntKind.u64 x0 (IntKind.u64.wrap r5))
                                                    (shrI IntKind.u64 x1
                                                      (IntKind.u64.wrap ((64 : Int) - IntKind.u64.wrap r5))) *
                                                  (4294967296 : Int)) +
                                              shrI IntKind.u64 (shlI IntKind.u64 x1 (IntKind.u64.wrap r5)) (32 : Int)) -
                                          IntKind.u64.wrap (r8 * shlI IntKind.u64 x2 (IntKind.u64.wrap r5)))).tdiv
                                    (shrI IntKind.u64 (shlI IntKind.u64 x2 (IntKind.u64.wrap r5)) (32 : Int))))).bind
                          fun (r11 : Int) =>
                          bif decide ((0 : Int) ≤ IntKind.u64.wrap r5) then
                            some
                              (IntKind.u64.wrap (IntKind.u64.wrap (r8 * (4294967296 : Int)) + r11),
                                shrI IntKind.u64
                                  (IntKind.u64.wrap
                                    (IntKind.u64.wrap
                                        (IntKind.u64.wrap
                                            (IntKind.u64.wrap
                                                (IntKind.u64.wrap
                                                    (IntKind.u64.wrap
                                                        (orI IntKind.u64 (shlI IntKind.u64 x0 (IntKind.u64.wrap r5))
                                                            (shrI IntKind.u64 x1
                                                              (IntKind.u64.wrap ((64 : Int) - IntKind.u64.wrap r5))) *
                                                          (4294967296 : Int)) +
                                                      shrI IntKind.u64 (shlI IntKind.u64 x1 (IntKind.u64.wrap r5))
                                                        (32 : Int)) -
                                                  IntKind.u64.wrap (r8 * shlI IntKind.u64 x2 (IntKind.u64.wrap r5))) *
                                              (4294967296 : Int)) +
                                          andI IntKind.u64 (shlI IntKind.u64 x1 (IntKind.u64.wrap r5))
                                            (4294967295 : Int)) -
                                      IntKind.u64.wrap (r11 * shlI IntKind.u64 x2 (IntKind.u64.wrap r5))))
                                  (IntKind.u64.wrap r5))
                          else none
                      else none
                  else none
                else none
              else none
            else none
          else none
theorem d_bits_Div64 (N : Nat) : DenF Try.prog 37 ⟨[.t_u64, .t_u64, .t_u64], [.t_u64, .t_u64], [[none], [none]], bits_Div64 N⟩ :=
  den_of (N := N) (gam := [(41, ⟨[.t_u64], [.t_i64], [[none]], bits_LeadingZeros64 N⟩)]) (txt := []) (hints := [(37, [([1, 0, 1], ⟨[0, 1, 2], [], [(.nrm, [])], []⟩), ([1, 0, 1, 1], ⟨[0, 1, 2], [], [(.nrm, [])], []⟩), ([0, 0, 1, 1, 1, 1, 1, 1, 1, 1, 1, 1, 1, 1, 1, 1], ⟨[2, 8, 9, 10, 11, 13, 14], [.reg 15 .t_u64 [none], .reg 16 .t_u64 [none]], [(.ex 0, [.reg 15 .t_u64 [none]])], []⟩), ([0, 0, 0, 0, 0, 1, 1, 1, 1, 1, 1, 1, 1, 1, 1, 1, 1, 1, 1], ⟨[2, 8, 9, 10, 11, 13, 14, 15, 16], [], [(.nrm, [.reg 78 .t_bool [none]])], []⟩), ([0, 0, 1, 1, 1, 1, 1, 1, 1, 1, 1, 1, 1, 1, 1, 1, 1, 1, 1, 1], ⟨[2, 8, 9, 10, 14, 15, 17], [.reg 16 .t_u64 [none], .reg 18 .t_u64 [none]], [(.ex 2, [.reg 18 .t_u64 [none]])], []⟩), ([0, 0, 0, 0, 0, 1, 1, 1, 1, 1, 1, 1, 1, 1, 1, 1, 1, 1, 1, 1, 1, 1, 1], ⟨[2, 8, 9, 10, 14, 15, 16, 17, 18], [], [(.nrm, [.reg 113 .t_bool [none]])], []⟩)])]) mixed (.cons (d_bits_LeadingZeros64 N) .nil) .nil Try.func37 (by kernel_rfl) (by kernel_rfl)

def split_exact (N : Nat) (x0 x1 x2 : Int) : Option (Int × Int) :=
 
  (bits_Mul64 N (IntKind.u64.wrap x0) (IntKind.u64.wrap x1)).bind fun (r3 : Int × Int) =>
    (bits_Div64 N r3.fst r3.snd (IntKind.u64.wrap x2)).bind fun (r4 : Int × Int) =>
      some (IntKind.i64.wrap r4.fst, IntKind.i64.wrap r4.snd)
theorem d_split_exact (N : Nat) : DenF Try.prog 30 ⟨[.t_i64, .t_i64, .t_i64], [.t_i64, .t_i64], [[none], [none]], split_exact N⟩ :=
  den_of (N := N) (gam := [(36, ⟨[.t_u64, .t_u64], [.t_u64, .t_u64], [[none], [none]], bits_Mul64 N⟩), (37, ⟨[.t_u64, .t_u64, .t_u64], [.t_u64, .t_u64], [[none], [none]], bits_Div64 N⟩)]) (txt := []) (hints := []) mixed (.cons (d_bits_Mul64 N) (.cons (d_bits_Div64 N) .nil)) .nil Try.func30 (by kernel_rfl) (by kernel_rfl)

def cmp_isNaN_int_ (N : Nat) (x0 : Int) : Option Bool :=
  some (x0 != x0)
theorem d_cmp_isNaN_int_ (N : Nat) : DenF Try.prog 39 ⟨[.t_i64], [.t_bool], [[none]], cmp_isNaN_int_ N⟩ :=
  den_of (N := N) (gam := []) (txt := []) (hints := []) mixed .nil .nil Try.func39 (by kernel_rfl) (by kernel_rfl)

def cmp_Compare_int_ (N : Nat) (x0 x1 : Int) : Option Int :=
 
  (cmp_isNaN_int_ N x0).bind fun (r2 : Bool) =>
    (cmp_isNaN_int_ N x1).bind fun (r3 : Bool) =>
      bif r2 then bif r3 then some (0 : Int) else some (-1 : Int)
      else
        bif r3 then some (1 : Int)
        else bif decide (x0 < x1) then some (-1 : Int) else bif decide (x0 > x1) then some (1 : Int) else some (0 : Int)
theorem d_cmp_Compare_int_ (N : Nat) : DenF Try.prog 33 ⟨[.t_i64, .t_i64], [.t_i64], [[none]], cmp_Compare_int_ N⟩ :=
  den_of (N := N) (gam := [(39, ⟨[.t_i64], [.t_bool], [[none]], cmp_isNaN_int_ N⟩)]) (txt := []) (hints := []) mixed (.cons (d_cmp_isNaN_int_ N) .nil) .nil Try.func33 (by kernel_rfl) (by kernel_rfl)

def split_Split (N : Nat) (x0 : Int) (x1 : List Int) : Option ((List Int) × Int) :=
 
  (split_check N x0 x1).bind fun (r2 : Int × Int) =>
    bif r2.snd != (0 : Int) then some ([], r2.snd)
    else
      bif
          true &&
            (decide ((↑x1.length : Int) ≤ (↑x1.length : Int)) &&
              decide ((↑x1.length : Int) * (8 : Int) ≤ (140737488355328 : Int))) then
        (some (List.replicate (↑x1.length : Int).toNat (0 : Int))).bind fun (r3 : List Int) =>
          bif
              true &&
                (decide ((↑x1.length : Int) ≤ (↑x1.length : Int)) &&
                  decide ((↑x1.length : Int) * (8 : Int) ≤ (140737488355328 : Int))) then
            (some (List.replicate (↑x1.length : Int).toNat (0 : Int))).bind fun (r4 : List Int) =>
              bif
                  true &&
                    (decide ((↑x1.length : Int) ≤ (↑x1.length : Int)) &&
                      decide ((↑x1.length : Int) * (8 : Int) ≤ (140737488355328 : Int))) then
                (some (List.replicate (↑x1.length : Int).toNat (0 : Int))).bind fun (r5 : List Int) =>
                  (whileF N
                        (fun (p6 : Int × Int × List Int × List Int × List Int) =>
                          bif decide (p6.snd.fst < (↑x1.length : Int)) then
                            bif decide ((0 : Int) ≤ p6.snd.fst) && decide (p6.snd.fst < (↑x1.length : Int)) then
                              (split_exact N x0 (x1.getD (Int.toNat p6.snd.fst) (0 : Int)) r2.fst).bind
                                fun (r7 : Int × Int) =>
                                bif
                                    decide ((0 : Int) ≤ p6.snd.fst) &&
                                      decide (p6.snd.fst < (↑(List.length p6.snd.snd.fst) : Int)) then
                                  (some (List.set p6.snd.snd.fst (Int.toNat p6.snd.fst) r7.fst)).bind
                                    fun (r8 : List Int) =>
                                    bif
                                        decide ((0 : Int) ≤ p6.snd.fst) &&
                                          decide (p6.snd.fst < (↑(List.length p6.snd.snd.snd.fst) : Int)) then
                                      (some (List.set p6.snd.snd.snd.fst (Int.toNat p6.snd.fst) r7.snd)).bind
                                        fun (r9 : List Int) =>
                                        bif
                                            decide ((0 : Int) ≤ p6.snd.fst) &&
                                              decide (p6.snd.fst < (↑(List.length p6.snd.snd.snd.snd) : Int)) then
                                          (some (List.set p6.snd.snd.snd.snd (Int.toNat p6.snd.fst) p6.snd.fst)).bind
                                            fun (r10 : List Int) =>
                                            bif
                                                decide ((0 : Int) ≤ p6.snd.fst) &&
                                                  decide (p6.snd.fst < (↑r8.length : Int)) then
                                              some
                                                (Sum.inl
                                                  (IntKind.i64.wrap (p6.fst - r8.getD (Int.toNat p6.snd.fst) (0 : Int)),
                                                    IntKind.i64.wrap (p6.snd.fst + (1 : Int)), r8, r9, r10))
                                            else none
                                        else none
                                    else none
                                else none
                            else none
                          else some (Sum.inr (p6.fst, p6.snd.snd)))
                        (x0, (0 : Int), r3, r4, r5)).bind
                    fun (r11 : Int × List Int × List Int × List Int) =>
                    (whileF N
                          (fun (p12 : Int × Int × List Int) =>
                            bif decide (p12.snd.fst ≤ (↑(List.length r11.snd.snd.snd) : Int)) then
                              (whileF N
                                    (fun (p13 : Int × List Int) =>
                                      bif decide (p13.fst < p12.snd.fst) then
                                        (whileF N
                                              (fun (p14 : Int × List Int) =>
                                                (bif decide (p14.fst > p12.fst) then
                                                      bif
                                                          decide ((0 : Int) ≤ p14.fst) &&
                                                            decide (p14.fst < (↑(List.length p14.snd) : Int)) then
                                                        bif
                                                            decide
                                                                ((0 : Int) ≤ IntKind.i64.wrap (p14.fst - (1 : Int))) &&
                                                              decide
                                                                (IntKind.i64.wrap (p14.fst - (1 : Int)) <
                                                                  (↑(List.length p14.snd) : Int)) then
                                                          bif
                                                              decide
                                                                  ((0 : Int) ≤
                                                                    List.getD p14.snd
                                                                      (IntKind.i64.wrap (p14.fst - (1 : Int))).toNat
                                                                      (0 : Int)) &&
                                                                decide
                                                                  (List.getD p14.snd
                                                                      (IntKind.i64.wrap (p14.fst - (1 : Int))).toNat
                                                                      (0 : Int) <
                                                                    (↑(List.length r11.snd.snd.fst) : Int)) then
                                                            bif
                                                                decide
                                                                    ((0 : Int) ≤
                                                                      List.getD p14.snd (Int.toNat p14.fst)
                                                                        (0 : Int)) &&
                                                                  decide
                                                                    (List.getD p14.snd (Int.toNat p14.fst) (0 : Int) <
                                                                      (↑(List.length r11.snd.snd.fst) : Int)) then
                                                              (cmp_Compare_int_ N
                                                                    (List.getD r11.snd.snd.fst
                                                                      (List.getD p14.snd
                                                                          (IntKind.i64.wrap (p14.fst - (1 : Int))).toNat
                                                                          (0 : Int)).toNat
                                                                      (0 : Int))
                                                                    (List.getD r11.snd.snd.fst
                                                                      (List.getD p14.snd (Int.toNat p14.fst)
                                                                          (0 : Int)).toNat
                                                                      (0 : Int))).bind
                                                                fun (r15 : Int) => some (decide (r15 < (0 : Int)))
                                                            else none
                                                          else none
                                                        else none
                                                      else none
                                                    else some false).bind
                                                  fun (r16 : Bool) =>
                                                  bif r16 then
                                                    bif
                                                        decide ((0 : Int) ≤ IntKind.i64.wrap (p14.fst - (1 : Int))) &&
                                                          decide
                                                            (IntKind.i64.wrap (p14.fst - (1 : Int)) <
                                                              (↑(List.length p14.snd) : Int)) then
                                                      bif
                                                          decide ((0 : Int) ≤ p14.fst) &&
                                                            decide (p14.fst < (↑(List.length p14.snd) : Int)) then
                                                        bif
                                                            decide ((0 : Int) ≤ p14.fst) &&
                                                              decide (p14.fst < (↑(List.length p14.snd) : Int)) then
                                                          (some
                                                                (List.set p14.snd (Int.toNat p14.fst)
                                                                  (List.getD p14.snd
                                                                    (IntKind.i64.wrap (p14.fst - (1 : Int))).toNat
                                                                    (0 : Int)))).bind
                                                            fun (r17 : List Int) =>
                                                            bif
                                                                decide
                                                                    ((0 : Int) ≤
                                                                      IntKind.i64.wrap (p14.fst - (1 : Int))) &&
                                                                  decide
                                                                    (IntKind.i64.wrap (p14.fst - (1 : Int)) <
                                                                      (↑r17.length : Int)) then
                                                              (some
                                                                    (r17.set
                                                                      (IntKind.i64.wrap (p14.fst - (1 : Int))).toNat
                                                                      (List.getD p14.snd (Int.toNat p14.fst)
                                                                        (0 : Int)))).bind
                                                                fun (r18 : List Int) =>
                                                                some
                                                                  (Sum.inl
                                                                    (IntKind.i64.wrap (p14.fst - (1 : Int)), r18))
                                                            else none
                                                        else none
                                                      else none
                                                    else none
                                                  else some (Sum.inr p14.snd))
                                              p13).bind
                                          fun (r19 : List Int) =>
                                          some (Sum.inl (IntKind.i64.wrap (p13.fst + (1 : Int)), r19))
                                      else some (Sum.inr p13.snd))
                                    (IntKind.i64.wrap (p12.fst + (1 : Int)), p12.snd.snd)).bind
                                fun (r20 : List Int) =>
                                some (Sum.inl (p12.snd.fst, IntKind.i64.wrap (p12.snd.fst + (20 : Int)), r20))
                            else some (Sum.inr (p12.fst, p12.snd.snd)))
                          ((0 : Int), (20 : Int), r11.snd.snd.snd)).bind
                      fun (r21 : Int × List Int) =>
                      (whileF N
                            (fun (p22 : Int × List Int) =>
                              bif decide (p22.fst < (↑(List.length r11.snd.snd.snd) : Int)) then
                                (whileF N
                                      (fun (p23 : Int × List Int) =>
                                        (bif decide (p23.fst > r21.fst) then
                                              bif
                                                  decide ((0 : Int) ≤ p23.fst) &&
                                                    decide (p23.fst < (↑(List.length p23.snd) : Int)) then
                                                bif
                                                    decide ((0 : Int) ≤ IntKind.i64.wrap (p23.fst - (1 : Int))) &&
                                                      decide
                                                        (IntKind.i64.wrap (p23.fst - (1 : Int)) <
                                                          (↑(List.length p23.snd) : Int)) then
                                                  bif
                                                      decide
                                                          ((0 : Int) ≤
                                                            List.getD p23.snd
                                                              (IntKind.i64.wrap (p23.fst - (1 : Int))).toNat
                                                              (0 : Int)) &&
                                                        decide
                                                          (List.getD p23.snd
                                                              (IntKind.i64.wrap (p23.fst - (1 : Int))).toNat (0 : Int) <
                                                            (↑(List.length r11.snd.snd.fst) : Int)) then
                                                    bif
                                                        decide
                                                            ((0 : Int) ≤
                                                              List.getD p23.snd (Int.toNat p23.fst) (0 : Int)) &&
                                                          decide
                                                            (List.getD p23.snd (Int.toNat p23.fst) (0 : Int) <
                                                              (↑(List.length r11.snd.snd.fst) : Int)) then
                                                      (cmp_Compare_int_ N
                                                            (List.getD r11.snd.snd.fst
                                                              (List.getD p23.snd
                                                                  (IntKind.i64.wrap (p23.fst - (1 : Int))).toNat
                                                                  (0 : Int)).toNat
                                                              (0 : Int))
                                                            (List.getD r11.snd.snd.fst
                                                              (List.getD p23.snd (Int.toNat p23.fst) (0 : Int)).toNat
                                                              (0 : Int))).bind
                                                        fun (r24 : Int) => some (decide (r24 < (0 : Int)))
                                                    else none
                                                  else none
                                                else none
                                              else none
                                            else some false).bind
                                          fun (r25 : Bool) =>
                                          bif r25 then
                                            bif
                                                decide ((0 : Int) ≤ IntKind.i64.wrap (p23.fst - (1 : Int))) &&
                                                  decide
                                                    (IntKind.i64.wrap (p23.fst - (1 : Int)) <
                                                      (↑(List.length p23.snd) : Int)) then
                                              bif
                                                  decide ((0 : Int) ≤ p23.fst) &&
                                                    decide (p23.fst < (↑(List.length p23.snd) : Int)) then
                                                bif
                                                    decide ((0 : Int) ≤ p23.fst) &&
                                                      decide (p23.fst < (↑(List.length p23.snd) : Int)) then
                                                  (some
                                                        (List.set p23.snd (Int.toNat p23.fst)
                                                          (List.getD p23.snd
                                                            (IntKind.i64.wrap (p23.fst - (1 : Int))).toNat
                                                            (0 : Int)))).bind
                                                    fun (r26 : List Int) =>
                                                    bif
                                                        decide ((0 : Int) ≤ IntKind.i64.wrap (p23.fst - (1 : Int))) &&
                                                          decide
                                                            (IntKind.i64.wrap (p23.fst - (1 : Int)) <
                                                              (↑r26.length : Int)) then
                                                      (some
                                                            (r26.set (IntKind.i64.wrap (p23.fst - (1 : Int))).toNat
                                                              (List.getD p23.snd (Int.toNat p23.fst) (0 : Int)))).bind
                                                        fun (r27 : List Int) =>
                                                        some (Sum.inl (IntKind.i64.wrap (p23.fst - (1 : Int)), r27))
                                                    else none
                                                else none
                                              else none
                                            else none
                                          else some (Sum.inr p23.snd))
                                      p22).bind
                                  fun (r28 : List Int) => some (Sum.inl (IntKind.i64.wrap (p22.fst + (1 : Int)), r28))
                              else some (Sum.inr p22.snd))
                            (IntKind.i64.wrap (r21.fst + (1 : Int)), r21.snd)).bind
                        fun (r29 : List Int) =>
                        (whileF N
                              (fun (p30 : Int × List Int) =>
                                bif decide (p30.fst < (↑(List.length r11.snd.snd.snd) : Int)) then
                                  (whileF N
                                        (fun (p31 : Int × Int × List Int) =>
                                          bif decide (p31.snd.fst ≤ (↑(List.length r11.snd.snd.snd) : Int)) then none
                                          else some (Sum.inr (p31.fst, p31.snd.snd)))
                                        ((0 : Int), IntKind.i64.wrap ((2 : Int) * p30.fst), p30.snd)).bind
                                    fun (r32 : Int × List Int) =>
                                    (bif
                                            decide
                                              (IntKind.i64.wrap (r32.fst + p30.fst) <
                                                (↑(List.length r11.snd.snd.snd) : Int)) then
                                          none
                                        else some r32.snd).bind
                                      fun (r33 : List Int) =>
                                      some (Sum.inl (IntKind.i64.wrap (p30.fst * (2 : Int)), r33))
                                else some (Sum.inr p30.snd))
                              ((20 : Int), r29)).bind
                          fun (r34 : List Int) =>
                          bif decide ((0 : Int) ≤ r11.fst) && decide (r11.fst ≤ (↑r34.length : Int)) then
                            (whileF N
                                  (fun (p35 : Int × List Int) =>
                                    bif decide (p35.fst < (↑(List.take (Int.toNat r11.fst) r34).length : Int)) then
                                      bif
                                          decide ((0 : Int) ≤ p35.fst) &&
                                            decide (p35.fst < (↑(List.take (Int.toNat r11.fst) r34).length : Int)) then
                                        bif
                                            decide
                                                ((0 : Int) ≤
                                                  (List.take (Int.toNat r11.fst) r34).getD (Int.toNat p35.fst)
                                                    (0 : Int)) &&
                                              decide
                                                ((List.take (Int.toNat r11.fst) r34).getD (Int.toNat p35.fst)
                                                    (0 : Int) <
                                                  (↑(List.length p35.snd) : Int)) then
                                          bif
                                              decide
                                                  ((0 : Int) ≤
                                                    (List.take (Int.toNat r11.fst) r34).getD (Int.toNat p35.fst)
                                                      (0 : Int)) &&
                                                decide
                                                  ((List.take (Int.toNat r11.fst) r34).getD (Int.toNat p35.fst)
                                                      (0 : Int) <
                                                    (↑(List.length p35.snd) : Int)) then
                                            (some
                                                  (List.set p35.snd
                                                    ((List.take (Int.toNat r11.fst) r34).getD (Int.toNat p35.fst)
                                                        (0 : Int)).toNat
                                                    (IntKind.i64.wrap
                                                      (List.getD p35.snd
                                                          ((List.take (Int.toNat r11.fst) r34).getD (Int.toNat p35.fst)
                                                              (0 : Int)).toNat
                                                          (0 : Int) +
                                                        (1 : Int))))).bind
                                              fun (r36 : List Int) =>
                                              some (Sum.inl (IntKind.i64.wrap (p35.fst + (1 : Int)), r36))
                                          else none
                                        else none
                                      else none
                                    else some (Sum.inr p35.snd))
                                  ((0 : Int), r11.snd.fst)).bind
                              fun (r37 : List Int) => some (r37, (0 : Int))
                          else none
              else none
          else none
      else none
theorem d_split_Split (N : Nat) : DenF Try.prog 25 ⟨[.t_i64, .l_i64], [.l_i64, .t_i64], [[some 3], [none]], split_Split N⟩ :=
  den_of (N := N) (gam := [(29, ⟨[.t_i64, .l_i64], [.t_i64, .t_i64], [[none], [none]], split_check N⟩), (30, ⟨[.t_i64, .t_i64, .t_i64], [.t_i64, .t_i64], [[none], [none]], split_exact N⟩), (33, ⟨[.t_i64, .t_i64], [.t_i64], [[none]], cmp_Compare_int_ N⟩)]) (txt := [(32, Try.f32), (31, Try.f31), (38, Try.f38), (42, Try.f42)]) (hints := [(25, [([0, 1, 0, 1, 1, 1, 1, 1, 1, 1], ⟨[0, 6, 8, 9, 10, 35, 36], [.reg 11 .t_i64 [none], .reg 37 .t_i64 [none], .rowr 8 .l_i64, .rowc 9 0 .l_i64, .rowr 10 .l_i64], [(.ex 0, [.reg 11 .t_i64 [none], .rowr 8 .l_i64, .rowc 9 0 .l_i64, .rowr 10 .l_i64])], []⟩), ([0, 1, 0, 1, 1, 1, 1, 1, 1, 1, 1, 1], ⟨[8, 71, 72], [.reg 73 .t_i64 [none], .rowr 8 .l_i64], [(.ex 2, [.rowr 8 .l_i64])], []⟩)]), (38, [([0, 0, 1, 1], ⟨[0, 1, 2, 6], [.reg 7 .t_i64 [none], .reg 8 .t_i64 [none], .rowr 0 .l_i64], [(.ex 0, [.reg 7 .t_i64 [none], .rowr 0 .l_i64])], []⟩), ([0, 1, 1, 1, 1], ⟨[0, 1, 2], [.reg 6 .t_i64 [none], .rowr 0 .l_i64], [(.ex 2, [.rowr 0 .l_i64])], []⟩), ([0, 0, 1, 0, 1, 0, 0, 1, 1, 1, 1], ⟨[0, 1, 2, 6], [.reg 7 .t_i64 [none], .reg 8 .t_i64 [none], .rowr 0 .l_i64], [(.ex 4, [.reg 7 .t_i64 [none], .rowr 0 .l_i64])], []⟩), ([1, 1, 0, 1, 1, 0, 1, 0, 0, 1, 1, 1, 1], ⟨[0, 1, 2, 6], [], [(.nrm, [.rowr 0 .l_i64])], []⟩)]), (42, [([0, 1], ⟨[0, 1, 2, 3], [.reg 8 .t_i64 [none], .rowr 0 .l_i64], [(.ex 0, [.rowr 0 .l_i64])], []⟩), ([0, 1, 0, 0, 1, 0, 0, 1], ⟨[0, 1, 2, 3, 8], [.reg 9 .t_i64 [none], .rowr 0 .l_i64], [(.ex 2, [.rowr 0 .l_i64])], []⟩), ([0, 0, 0, 0, 1, 0, 0, 1, 0, 0, 1], ⟨[0, 1, 2, 3, 8, 9], [], [(.nrm, [.reg 34 .t_bool [none]])], []⟩)])]) mixed (.cons (d_split_check N) (.cons (d_split_exact N) (.cons (d_cmp_Compare_int_ N) .nil))) (.cons Try.func32 (.cons Try.func31 (.cons Try.func38 (.cons Try.func42 .nil)))) Try.func25 (by kernel_rfl) (by kernel_rfl)

def pond_Take (N : Nat) (x0 : List Pond) (x1 : Int) : Option ((List Pond) × Int) :=
 
  bif decide (x1 < (0 : Int)) then some ([], (2 : Int))
  else
    (pond_Spare N x0).bind fun (r2 : Int) =>
      bif decide (x1 > r2) then some ([], (9 : Int))
      else
        (sl_Clone_Pond N x0).bind fun (r3 : List Pond) =>
          bif x1 == (0 : Int) then some (r3, (0 : Int))
          else
            bif
                true &&
                  (decide ((↑x0.length : Int) ≤ (↑x0.length : Int)) &&
                    decide ((↑x0.length : Int) * (8 : Int) ≤ (140737488355328 : Int))) then
              (some (List.replicate (↑x0.length : Int).toNat (0 : Int))).bind fun (r4 : List Int) =>
                (whileF N
                      (fun (p5 : Int × List Int) =>
                        bif decide (p5.fst < (↑x0.length : Int)) then
                          bif decide ((0 : Int) ≤ p5.fst) && decide (p5.fst < (↑x0.length : Int)) then
                            bif decide ((0 : Int) ≤ p5.fst) && decide (p5.fst < (↑(List.length p5.snd) : Int)) then
                              (some
                                    (List.set p5.snd (Int.toNat p5.fst)
                                      (IntKind.i64.wrap
                                        ((x0.getD (Int.toNat p5.fst) z_Pond).Volume -
                                          (x0.getD (Int.toNat p5.fst) z_Pond).Least)))).bind
                                fun (r6 : List Int) => some (Sum.inl (IntKind.i64.wrap (p5.fst + (1 : Int)), r6))
                            else none
                          else none
                        else some (Sum.inr p5.snd))
                      ((0 : Int), r4)).bind
                  fun (r7 : List Int) =>
                  (split_Split N x1 r7).bind fun (r8 : List Int × Int) =>
                    bif r8.snd != (0 : Int) then some ([], r8.snd)
                    else
                      (whileF N
                            (fun (p9 : Int × List Pond) =>
                              bif decide (p9.fst < (↑(List.length r8.fst) : Int)) then
                                bif decide ((0 : Int) ≤ p9.fst) && decide (p9.fst < (↑(List.length r8.fst) : Int)) then
                                  bif
                                      decide ((0 : Int) ≤ p9.fst) &&
                                        decide (p9.fst < (↑(List.length p9.snd) : Int)) then
                                    bif
                                        decide ((0 : Int) ≤ p9.fst) &&
                                          decide (p9.fst < (↑(List.length p9.snd) : Int)) then
                                      (some
                                            (List.set p9.snd (Int.toNat p9.fst)
                                              (Pond.mk (List.getD p9.snd (Int.toNat p9.fst) z_Pond).ID
                                                (IntKind.i64.wrap
                                                  ((List.getD p9.snd (Int.toNat p9.fst) z_Pond).Volume -
                                                    List.getD r8.fst (Int.toNat p9.fst) (0 : Int)))
                                                (List.getD p9.snd (Int.toNat p9.fst) z_Pond).Least
                                                (List.getD p9.snd (Int.toNat p9.fst) z_Pond).Most
                                                (List.getD p9.snd (Int.toNat p9.fst) z_Pond).Inflow))).bind
                                        fun (r10 : List Pond) =>
                                        some (Sum.inl (IntKind.i64.wrap (p9.fst + (1 : Int)), r10))
                                    else none
                                  else none
                                else none
                              else some (Sum.inr p9.snd))
                            ((0 : Int), r3)).bind
                        fun (r11 : List Pond) => some (r11, (0 : Int))
            else none
theorem d_pond_Take (N : Nat) : DenF Try.prog 17 ⟨[.l_Pond, .t_i64], [.l_Pond, .t_i64], [[some 38], [none]], pond_Take N⟩ :=
  den_of (N := N) (gam := [(13, ⟨[.l_Pond], [.t_i64], [[none]], pond_Spare N⟩), (24, ⟨[.l_Pond], [.l_Pond], [[some 38]], sl_Clone_Pond N⟩), (25, ⟨[.t_i64, .l_i64], [.l_i64, .t_i64], [[some 3], [none]], split_Split N⟩)]) (txt := []) (hints := [(17, [([0, 1, 0, 1, 1, 1, 1, 1, 1], ⟨[1, 6, 7, 28, 29], [.reg 30 .t_i64 [none], .rowr 7 .l_i64], [(.ex 0, [.rowr 7 .l_i64])], []⟩), ([0, 1, 0, 1, 1, 1, 1, 1, 1, 1, 1, 1], ⟨[6, 53, 54], [.reg 55 .t_i64 [none], .rowr 6 .l_Pond], [(.ex 2, [.rowr 6 .l_Pond])], []⟩)])]) mixed (.cons (d_pond_Spare N) (.cons (d_sl_Clone_Pond N) (.cons (d_split_Split N) .nil))) .nil Try.func17 (by kernel_rfl) (by kernel_rfl)
end Go.Proofs.Ytoniopgegcngpaa
