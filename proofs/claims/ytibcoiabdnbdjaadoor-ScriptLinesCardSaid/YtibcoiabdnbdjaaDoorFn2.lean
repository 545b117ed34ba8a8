/- Written by a program (gen.py, asm.py): what each function computes, as a plain function, and that its text computes it. No condition. -/
import Derived.Test.YtibcoiabdnbdjaaDoorFn1
import Derived.Test.YtibcoiabdnbdjaaDoorCmo
import Derived.Test.YtibcoiabdnbdjaaDoorCmv
namespace Go.Proofs.YtibcoiabdnbdjaaDoor
open Go.Cm Go.Proofs
set_option linter.unusedVariables false
set_option maxRecDepth 100000

def r60_cut (N : Nat) (x0 : ByteArray) : Option ((List ByteArray)) :=
 
  (whileF N
        (fun (p1 : List ByteArray × ByteArray × Int) =>
          bif decide (p1.snd.snd < (↑x0.size : Int)) then
            bif decide ((0 : Int) ≤ p1.snd.snd) && decide (p1.snd.snd < (↑x0.size : Int)) then
              (bif byteAt x0 p1.snd.snd == (32 : Int) then
                    (some [p1.snd.fst]).bind fun (r2 : List ByteArray) =>
                      bif decide ((List.length p1.fst + r2.length) * 16 ≤ 140737488355328) then
                        (some (p1.fst ++ r2)).bind fun (r3 : List ByteArray) => some (r3, bL [])
                      else none
                  else
                    bif
                        decide ((0 : Int) ≤ p1.snd.snd) &&
                          (decide (p1.snd.snd ≤ IntKind.i64.wrap (p1.snd.snd + (1 : Int))) &&
                            decide (IntKind.i64.wrap (p1.snd.snd + (1 : Int)) ≤ (↑x0.size : Int))) then
                      bif
                          decide
                            (ByteArray.size p1.snd.fst +
                                (x0.extract (Int.toNat p1.snd.snd)
                                    (IntKind.i64.wrap (p1.snd.snd + (1 : Int))).toNat).size ≤
                              9223372036854775807) then
                        some
                          (p1.fst,
                            p1.snd.fst ++
                              x0.extract (Int.toNat p1.snd.snd) (IntKind.i64.wrap (p1.snd.snd + (1 : Int))).toNat)
                      else none
                    else none).bind
                fun (r4 : List ByteArray × ByteArray) =>
                some (Sum.inl (r4.fst, r4.snd, IntKind.i64.wrap (p1.snd.snd + (1 : Int))))
            else none
          else some (Sum.inr (p1.fst, p1.snd.fst)))
        ([], bL [], (0 : Int))).bind
    fun (r5 : List ByteArray × ByteArray) =>
    (some [r5.snd]).bind fun (r6 : List ByteArray) =>
      bif decide ((List.length r5.fst + r6.length) * 16 ≤ 140737488355328) then
        (some (r5.fst ++ r6)).bind fun (r7 : List ByteArray) => some r7
      else none
theorem d_r60_cut (N : Nat) : DenF Tryd.prog 33 ⟨[.t_str], [.l_str], [[some 9]], r60_cut N⟩ :=
  den_of (N := N) (gam := []) (pan := []) (txt := []) (hints := [(33, [([0, 1, 0, 1, 1, 1], ⟨[0], [.reg 3 .l_str [some 9], .reg 4 .t_str [none], .reg 5 .t_i64 [none]], [(.ex 0, [.reg 3 .l_str [some 9], .reg 4 .t_str [none]])], []⟩), ([1, 0, 0, 1, 0, 0, 1, 0, 1, 1, 1], ⟨[0, 5], [], [(.nrm, [.reg 3 .l_str [some 9], .reg 4 .t_str [none]])], []⟩)])]) pok .nil .nil .nil Tryd.func33 (by kernel_rfl) (by kernel_rfl)

def r60_words (N : Nat) : Option ((List ByteArray)) :=
 
  (some
        [ByteArray.mk (Array.mk []),
          ByteArray.mk (Array.mk [(116 : UInt8), (105 : UInt8), (99 : UInt8), (107 : UInt8)]),
          ByteArray.mk
            (Array.mk
              [(111 : UInt8), (98 : UInt8), (115 : UInt8), (101 : UInt8), (114 : UInt8), (118 : UInt8), (101 : UInt8)]),
          ByteArray.mk (Array.mk [(108 : UInt8), (105 : UInt8), (102 : UInt8), (116 : UInt8)]),
          ByteArray.mk (Array.mk [(115 : UInt8), (101 : UInt8), (108 : UInt8), (108 : UInt8)]),
          ByteArray.mk (Array.mk [(112 : UInt8), (97 : UInt8), (115 : UInt8), (115 : UInt8)]),
          ByteArray.mk (Array.mk [(111 : UInt8), (117 : UInt8), (116 : UInt8)]),
          ByteArray.mk
            (Array.mk [(114 : UInt8), (101 : UInt8), (118 : UInt8), (111 : UInt8), (107 : UInt8), (101 : UInt8)]),
          ByteArray.mk
            (Array.mk [(117 : UInt8), (112 : UInt8), (108 : UInt8), (111 : UInt8), (97 : UInt8), (100 : UInt8)]),
          ByteArray.mk (Array.mk [(104 : UInt8), (101 : UInt8), (97 : UInt8), (114 : UInt8)]),
          ByteArray.mk
            (Array.mk
              [(100 : UInt8), (101 : UInt8), (108 : UInt8), (105 : UInt8), (118 : UInt8), (101 : UInt8),
                (114 : UInt8)]),
          ByteArray.mk (Array.mk [(108 : UInt8), (111 : UInt8), (115 : UInt8), (101 : UInt8)]),
          ByteArray.mk (Array.mk [(99 : UInt8), (111 : UInt8), (112 : UInt8), (121 : UInt8)]),
          ByteArray.mk (Array.mk [(115 : UInt8), (112 : UInt8), (108 : UInt8), (105 : UInt8), (116 : UInt8)]),
          ByteArray.mk (Array.mk [(99 : UInt8), (108 : UInt8), (111 : UInt8), (115 : UInt8), (101 : UInt8)]),
          ByteArray.mk
            (Array.mk
              [(114 : UInt8), (101 : UInt8), (108 : UInt8), (101 : UInt8), (97 : UInt8), (115 : UInt8), (101 : UInt8)]),
          ByteArray.mk (Array.mk [(115 : UInt8), (105 : UInt8), (103 : UInt8), (110 : UInt8)]),
          ByteArray.mk
            (Array.mk [(104 : UInt8), (97 : UInt8), (122 : UInt8), (97 : UInt8), (114 : UInt8), (100 : UInt8)]),
          ByteArray.mk
            (Array.mk [(114 : UInt8), (101 : UInt8), (109 : UInt8), (111 : UInt8), (118 : UInt8), (101 : UInt8)]),
          ByteArray.mk (Array.mk [(111 : UInt8), (112 : UInt8), (101 : UInt8), (110 : UInt8)]),
          ByteArray.mk (Array.mk [(115 : UInt8), (104 : UInt8), (117 : UInt8), (116 : UInt8)]),
          ByteArray.mk (Array.mk [(115 : UInt8), (101 : UInt8), (110 : UInt8), (100 : UInt8)]),
          ByteArray.mk (Array.mk [(103 : UInt8), (114 : UInt8), (111 : UInt8), (111 : UInt8), (109 : UInt8)]),
          ByteArray.mk (Array.mk [(119 : UInt8), (105 : UInt8), (110 : UInt8), (99 : UInt8), (104 : UInt8)]),
          ByteArray.mk (Array.mk [(105 : UInt8), (115 : UInt8), (115 : UInt8), (117 : UInt8), (101 : UInt8)]),
          ByteArray.mk (Array.mk [(112 : UInt8), (108 : UInt8), (97 : UInt8), (110 : UInt8)]),
          ByteArray.mk (Array.mk [(99 : UInt8), (108 : UInt8), (101 : UInt8), (97 : UInt8), (114 : UInt8)]),
          ByteArray.mk (Array.mk [(97 : UInt8), (114 : UInt8), (109 : UInt8)]),
          ByteArray.mk (Array.mk [(102 : UInt8), (105 : UInt8), (114 : UInt8), (101 : UInt8)]),
          ByteArray.mk (Array.mk [(101 : UInt8), (110 : UInt8), (100 : UInt8)]),
          ByteArray.mk (Array.mk [(97 : UInt8), (98 : UInt8), (111 : UInt8), (114 : UInt8), (116 : UInt8)]),
          ByteArray.mk (Array.mk [(103 : UInt8), (117 : UInt8), (110 : UInt8)]),
          ByteArray.mk (Array.mk [(115 : UInt8), (110 : UInt8), (111 : UInt8), (119 : UInt8)]),
          ByteArray.mk (Array.mk [(115 : UInt8), (119 : UInt8), (101 : UInt8), (101 : UInt8), (112 : UInt8)]),
          ByteArray.mk (Array.mk [(115 : UInt8), (119 : UInt8), (101 : UInt8), (112 : UInt8), (116 : UInt8)]),
          ByteArray.mk
            (Array.mk [(114 : UInt8), (101 : UInt8), (112 : UInt8), (111 : UInt8), (114 : UInt8), (116 : UInt8)]),
          ByteArray.mk (Array.mk [(106 : UInt8), (117 : UInt8), (100 : UInt8), (103 : UInt8), (101 : UInt8)]),
          ByteArray.mk (Array.mk [(103 : UInt8), (111 : UInt8)]),
          ByteArray.mk
            (Array.mk [(97 : UInt8), (114 : UInt8), (114 : UInt8), (105 : UInt8), (118 : UInt8), (101 : UInt8)]),
          ByteArray.mk (Array.mk [(108 : UInt8), (101 : UInt8), (97 : UInt8), (118 : UInt8), (101 : UInt8)]),
          ByteArray.mk (Array.mk [(100 : UInt8), (111 : UInt8), (110 : UInt8), (101 : UInt8)]),
          ByteArray.mk
            (Array.mk [(112 : UInt8), (101 : UInt8), (114 : UInt8), (105 : UInt8), (111 : UInt8), (100 : UInt8)]),
          ByteArray.mk (Array.mk [(99 : UInt8), (111 : UInt8), (117 : UInt8), (110 : UInt8), (116 : UInt8)]),
          ByteArray.mk
            (Array.mk [(115 : UInt8), (101 : UInt8), (116 : UInt8), (116 : UInt8), (108 : UInt8), (101 : UInt8)]),
          ByteArray.mk
            (Array.mk [(114 : UInt8), (101 : UInt8), (102 : UInt8), (117 : UInt8), (110 : UInt8), (100 : UInt8)])]).bind
    fun (r0 : List ByteArray) => some r0
theorem d_r60_words (N : Nat) : DenF Tryd.prog 40 ⟨[], [.l_str], [[some 9]], r60_words N⟩ :=
  den_of (N := N) (gam := []) (pan := []) (txt := []) (hints := []) pok .nil .nil .nil Tryd.func40 (by kernel_rfl) (by kernel_rfl)

def r60_Kind (N : Nat) (x0 : ByteArray) : Option Int :=
 
  (r60_words N).bind fun (r1 : List ByteArray) =>
    (whileF N
          (fun (p2 : Int) =>
            bif decide (p2 < (↑r1.length : Int)) then
              bif decide ((0 : Int) ≤ p2) && decide (p2 < (↑r1.length : Int)) then
                bif (r1.getD p2.toNat (bL [])).toList == x0.toList then some (Sum.inr (Sum.inr p2))
                else some (Sum.inl (IntKind.i64.wrap (p2 + (1 : Int))))
              else none
            else some (Sum.inr (Sum.inl ())))
          (1 : Int)).bind
      fun (r3 : Unit ⊕ Int) => Sum.elim (fun (p4 : Unit) => some (0 : Int)) (fun (p5 : Int) => some p5) r3
theorem d_r60_Kind (N : Nat) : DenF Tryd.prog 34 ⟨[.t_str], [.t_i64], [[none]], r60_Kind N⟩ :=
  den_of (N := N) (gam := [(40, ⟨[], [.l_str], [[some 9]], r60_words N⟩)]) (pan := []) (txt := []) (hints := [(34, [([0, 1, 0, 1, 1], ⟨[0, 3], [.reg 4 .t_i64 [none]], [(.ex 0, []), (.ret, [.reg 2 .t_i64 [none]])], []⟩)])]) pok (.cons (d_r60_words N) .nil) .nil .nil Tryd.func34 (by kernel_rfl) (by kernel_rfl)

def r60_form (N : Nat) (x0 : ByteArray) : Option Bool :=
 
  (bif decide ((↑x0.size : Int) > (0 : Int)) then
        bif true && decide ((0 : Int) < (↑x0.size : Int)) then some (byteAt x0 (0 : Int) == (45 : Int)) else none
      else some false).bind
    fun (r1 : Bool) =>
    (bif r1 then
          bif true && decide ((1 : Int) ≤ (↑x0.size : Int)) then
            bif (x0.extract 1 (↑x0.size : Int).toNat).toList == [(48 : UInt8)] then some (Sum.inr false)
            else some (Sum.inl (x0.extract 1 (↑x0.size : Int).toNat))
          else none
        else some (Sum.inl x0)).bind
      fun (r2 : ByteArray ⊕ Bool) =>
      Sum.elim
        (fun (p3 : ByteArray) =>
          (bif p3.toList == [] then some true
              else
                bif true && decide ((0 : Int) < (↑p3.size : Int)) then
                  bif byteAt p3 (0 : Int) == (48 : Int) then some (decide ((↑p3.size : Int) > (1 : Int)))
                  else some false
                else none).bind
            fun (r4 : Bool) =>
            bif r4 then some false
            else
              (whileF N
                    (fun (p5 : Int) =>
                      bif decide (p5 < (↑p3.size : Int)) then
                        (bif decide ((0 : Int) ≤ p5) && decide (p5 < (↑p3.size : Int)) then
                              bif decide (byteAt p3 p5 < (48 : Int)) then some true
                              else
                                bif decide ((0 : Int) ≤ p5) && decide (p5 < (↑p3.size : Int)) then
                                  some (decide (byteAt p3 p5 > (57 : Int)))
                                else none
                            else none).bind
                          fun (r6 : Bool) =>
                          bif r6 then some (Sum.inr (Sum.inr false))
                          else some (Sum.inl (IntKind.i64.wrap (p5 + (1 : Int))))
                      else some (Sum.inr (Sum.inl ())))
                    (0 : Int)).bind
                fun (r7 : Unit ⊕ Bool) => Sum.elim (fun (p8 : Unit) => some true) (fun (p9 : Bool) => some p9) r7)
        (fun (p10 : Bool) => some p10) r2
theorem d_r60_form (N : Nat) : DenF Tryd.prog 35 ⟨[.t_str], [.t_bool], [[none]], r60_form N⟩ :=
  den_of (N := N) (gam := []) (pan := []) (txt := []) (hints := [(35, [([0, 0, 1], ⟨[0], [], [(.nrm, [.reg 11 .t_bool [none]])], []⟩), ([1, 0, 1], ⟨[], [], [(.nrm, [.reg 0 .t_str [none]]), (.ret, [.reg 2 .t_bool [none]])], []⟩), ([0, 0, 1, 1], ⟨[0], [], [(.nrm, [.reg 27 .t_bool [none]])], []⟩), ([0, 1, 0, 1, 1, 1], ⟨[0], [.reg 3 .t_i64 [none]], [(.ex 0, []), (.ret, [.reg 2 .t_bool [none]])], []⟩), ([0, 0, 0, 1, 0, 0, 1, 0, 1, 1, 1], ⟨[0, 3], [], [(.nrm, [.reg 43 .t_bool [none]])], []⟩)])]) pok .nil .nil .nil Tryd.func35 (by kernel_rfl) (by kernel_rfl)

def r59_Arguments (N : Nat) (x0 : Int) : Option (Int × Bool) :=
 
  (some
        [(-1 : Int), (1 : Int), (5 : Int), (5 : Int), (5 : Int), (2 : Int), (2 : Int), (2 : Int), (1 : Int), (1 : Int),
          (1 : Int), (1 : Int), (1 : Int), (0 : Int), (3 : Int), (3 : Int), (3 : Int), (2 : Int), (1 : Int), (1 : Int),
          (1 : Int), (2 : Int), (3 : Int), (2 : Int), (6 : Int), (5 : Int), (1 : Int), (2 : Int), (3 : Int), (1 : Int),
          (1 : Int), (2 : Int), (1 : Int), (0 : Int), (3 : Int), (2 : Int), (2 : Int), (2 : Int), (1 : Int), (1 : Int),
          (2 : Int), (1 : Int), (0 : Int), (0 : Int), (2 : Int)]).bind
    fun (r1 : List Int) =>
    (bif decide (x0 < (1 : Int)) then some true else some (decide (x0 ≥ (↑r1.length : Int)))).bind fun (r2 : Bool) =>
      bif r2 then some ((-1 : Int), false)
      else
        (bif decide ((0 : Int) ≤ x0) && decide (x0 < (↑r1.length : Int)) then
              bif x0 == (13 : Int) then some (r1.getD x0.toNat (0 : Int), true)
              else
                bif x0 == (23 : Int) then some (r1.getD x0.toNat (0 : Int), true)
                else
                  bif x0 == (24 : Int) then some (r1.getD x0.toNat (0 : Int), true)
                  else some (r1.getD x0.toNat (0 : Int), x0 == (33 : Int))
            else none).bind
          fun (r3 : Int × Bool) => some r3
theorem d_r59_Arguments (N : Nat) : DenF Tryd.prog 41 ⟨[.t_i64], [.t_i64, .t_bool], [[none], [none]], r59_Arguments N⟩ :=
  den_of (N := N) (gam := []) (pan := []) (txt := []) (hints := [(41, [([0, 0, 1, 1], ⟨[0, 4], [], [(.nrm, [.reg 13 .t_bool [none]])], []⟩), ([0, 1, 1, 1], ⟨[], [], [(.nrm, [.reg 2 .t_i64 [none], .reg 3 .t_bool [none]])], []⟩)])]) pok .nil .nil .nil Tryd.func41 (by kernel_rfl) (by kernel_rfl)

def r60_fits (N : Nat) (x0 x1 : Int) : Option Bool :=
 
  (r59_Arguments N x0).bind fun (r2 : Int × Bool) =>
    (bif x1 == r2.fst then some true
        else
          bif r2.snd then
            bif decide (x1 > r2.fst) then some (decide (x1 ≤ IntKind.i64.wrap (r2.fst + (40 : Int)))) else some false
          else some false).bind
      fun (r3 : Bool) => some r3
theorem d_r60_fits (N : Nat) : DenF Tryd.prog 29 ⟨[.t_i64, .t_i64], [.t_bool], [[none]], r60_fits N⟩ :=
  den_of (N := N) (gam := [(41, ⟨[.t_i64], [.t_i64, .t_bool], [[none], [none]], r59_Arguments N⟩)]) (pan := []) (txt := []) (hints := [(29, [([0, 1, 1], ⟨[], [], [(.nrm, [.reg 4 .t_bool [none]])], []⟩)])]) pok (.cons (d_r59_Arguments N) .nil) .nil .nil Tryd.func29 (by kernel_rfl) (by kernel_rfl)

def r60_value (N : Nat) (x0 : ByteArray) : Option (Int × Bool) :=
 
  bif true && decide ((0 : Int) < (↑x0.size : Int)) then
    (bif byteAt x0 (0 : Int) == (45 : Int) then
          bif true && decide ((1 : Int) ≤ (↑x0.size : Int)) then
            some (x0.extract 1 (↑x0.size : Int).toNat, (-1 : Int))
          else none
        else some (x0, (1 : Int))).bind
      fun (r1 : ByteArray × Int) =>
      (whileF N
            (fun (p2 : Int × Int) =>
              bif decide (p2.snd < (↑(ByteArray.size r1.fst) : Int)) then
                bif decide ((0 : Int) ≤ p2.snd) && decide (p2.snd < (↑(ByteArray.size r1.fst) : Int)) then
                  bif
                      decide
                        (IntKind.i64.wrap
                            (IntKind.i64.wrap ((10 : Int) * p2.fst) +
                              IntKind.i64.wrap (IntKind.u8.wrap (byteAt r1.fst p2.snd - (48 : Int)))) >
                          (1125899906842624 : Int)) then
                    some (Sum.inr (Sum.inr ((0 : Int), false)))
                  else
                    some
                      (Sum.inl
                        (IntKind.i64.wrap
                            (IntKind.i64.wrap ((10 : Int) * p2.fst) +
                              IntKind.i64.wrap (IntKind.u8.wrap (byteAt r1.fst p2.snd - (48 : Int)))),
                          IntKind.i64.wrap (p2.snd + (1 : Int))))
                else none
              else some (Sum.inr (Sum.inl p2.fst)))
            ((0 : Int), (0 : Int))).bind
        fun (r3 : Int ⊕ Int × Bool) =>
        Sum.elim (fun (p4 : Int) => some (IntKind.i64.wrap (r1.snd * p4), true)) (fun (p5 : Int × Bool) => some p5) r3
  else none
theorem d_r60_value (N : Nat) : DenF Tryd.prog 36 ⟨[.t_str], [.t_i64, .t_bool], [[none], [none]], r60_value N⟩ :=
  den_of (N := N) (gam := []) (pan := []) (txt := []) (hints := [(36, [([1, 0, 1, 1], ⟨[], [], [(.nrm, [.reg 0 .t_str [none], .reg 4 .t_i64 [none]])], []⟩), ([0, 1, 0, 1, 1, 1, 1], ⟨[0, 4], [.reg 5 .t_i64 [none], .reg 6 .t_i64 [none]], [(.ex 0, [.reg 5 .t_i64 [none]]), (.ret, [.reg 2 .t_i64 [none], .reg 3 .t_bool [none]])], []⟩)])]) pok .nil .nil .nil Tryd.func36 (by kernel_rfl) (by kernel_rfl)

def r60_line (N : Nat) (x0 : ByteArray) : Option (Event × Int) :=
 
  (r60_cut N x0).bind fun (r1 : List ByteArray) =>
    bif true && decide ((0 : Int) < (↑r1.length : Int)) then
      (r60_Kind N (r1.getD 0 (bL []))).bind fun (r2 : Int) =>
        bif r2 == (0 : Int) then some (z_Event, (18 : Int))
        else
          (whileF N
                (fun (p3 : Int × Event) =>
                  bif decide (p3.fst < (↑r1.length : Int)) then
                    bif decide ((0 : Int) ≤ p3.fst) && decide (p3.fst < (↑r1.length : Int)) then
                      (r60_form N (r1.getD (Int.toNat p3.fst) (bL []))).bind fun (r4 : Bool) =>
                        bif !r4 then some (Sum.inr (Sum.inr ((3 : Int), z_Event)))
                        else some (Sum.inl (IntKind.i64.wrap (p3.fst + (1 : Int)), p3.snd))
                    else none
                  else some (Sum.inr (Sum.inl p3.snd)))
                ((1 : Int), z_Event)).bind
            fun (r5 : Event ⊕ Int × Event) =>
            Sum.elim
              (fun (p6 : Event) =>
                (r60_fits N r2 (IntKind.i64.wrap ((↑r1.length : Int) - (1 : Int)))).bind fun (r7 : Bool) =>
                  bif !r7 then some (z_Event, (3 : Int))
                  else
                    (whileF N
                          (fun (p8 : Int × Event × Event) =>
                            bif decide (p8.fst < (↑r1.length : Int)) then
                              bif decide ((0 : Int) ≤ p8.fst) && decide (p8.fst < (↑r1.length : Int)) then
                                (r60_value N (r1.getD (Int.toNat p8.fst) (bL []))).bind fun (r9 : Int × Bool) =>
                                  bif !r9.snd then some (Sum.inr (Sum.inr ((2 : Int), z_Event, p8.snd.snd)))
                                  else
                                    (some [r9.fst]).bind fun (r10 : List Int) =>
                                      bif
                                          decide
                                            ((p8.snd.snd.Args.length + r10.length) * 8 ≤
                                              140737488355328) then
                                        (some (p8.snd.snd.Args ++ r10)).bind fun (r11 : List Int) =>
                                          some
                                            (Sum.inl
                                              (IntKind.i64.wrap (p8.fst + (1 : Int)), p8.snd.fst,
                                                Event.mk p8.snd.snd.Kind r11))
                                      else none
                              else none
                            else some (Sum.inr (Sum.inl p8.snd)))
                          ((1 : Int), p6, Event.mk r2 [])).bind
                      fun (r12 : Event × Event ⊕ Int × Event × Event) =>
                      Sum.elim (fun (p13 : Event × Event) => some (p13.snd, (0 : Int)))
                        (fun (p14 : Int × Event × Event) => some (p14.snd.fst, p14.fst)) r12)
              (fun (p15 : Int × Event) => some (p15.snd, p15.fst)) r5
    else none
theorem d_r60_line (N : Nat) : DenF Tryd.prog 21 ⟨[.t_str], [.t_Event, .t_i64], [[none, some 3], [none]], r60_line N⟩ :=
  den_of (N := N) (gam := [(33, ⟨[.t_str], [.l_str], [[some 9]], r60_cut N⟩), (34, ⟨[.t_str], [.t_i64], [[none]], r60_Kind N⟩), (35, ⟨[.t_str], [.t_bool], [[none]], r60_form N⟩), (29, ⟨[.t_i64, .t_i64], [.t_bool], [[none]], r60_fits N⟩), (36, ⟨[.t_str], [.t_i64, .t_bool], [[none], [none]], r60_value N⟩)]) (pan := []) (txt := []) (hints := [(21, [([0, 1, 0, 1, 1, 1, 1], ⟨[2, 4, 5], [.reg 6 .t_i64 [none], .var 2 .t_Event [none, some 3]], [(.ex 0, [.var 2 .t_Event [none, some 3]]), (.ret, [.reg 3 .t_i64 [none], .var 2 .t_Event [none, some 3]])], []⟩), ([0, 1, 0, 1, 1, 1, 1, 1, 1], ⟨[2, 4, 5], [.reg 7 .t_i64 [none], .var 2 .t_Event [none, some 3], .var 5 .t_Event [none, some 3]], [(.ex 2, [.var 2 .t_Event [none, some 3], .var 5 .t_Event [none, some 3]]), (.ret, [.reg 3 .t_i64 [none], .var 2 .t_Event [none, some 3], .var 5 .t_Event [none, some 3]])], []⟩)])]) pok (.cons (d_r60_cut N) (.cons (d_r60_Kind N) (.cons (d_r60_form N) (.cons (d_r60_fits N) (.cons (d_r60_value N) .nil))))) .nil .nil Tryd.func21 (by kernel_rfl) (by kernel_rfl)

def r60_Parse (N : Nat) (x0 : ByteArray) : Option ((List Event) × Int × Int) :=
 
  bif decide ((↑x0.size : Int) > (20000 : Int)) then some ([], (0 : Int), (4 : Int))
  else
    (whileF N
          (fun (p1 : List Event × Int × Int) =>
            bif decide (p1.snd.snd < (↑x0.size : Int)) then
              (whileF N
                    (fun (p2 : Int) =>
                      (bif decide (p2 < (↑x0.size : Int)) then
                            bif decide ((0 : Int) ≤ p2) && decide (p2 < (↑x0.size : Int)) then
                              some (byteAt x0 p2 != (10 : Int))
                            else none
                          else some false).bind
                        fun (r3 : Bool) =>
                        bif r3 then some (Sum.inl (IntKind.i64.wrap (p2 + (1 : Int)))) else some (Sum.inr p2))
                    p1.snd.snd).bind
                fun (r4 : Int) =>
                (bif decide (r4 > p1.snd.snd) then
                      bif decide ((0 : Int) ≤ p1.snd.snd) && decide (p1.snd.snd < (↑x0.size : Int)) then
                        some (byteAt x0 p1.snd.snd != (35 : Int))
                      else none
                    else some false).bind
                  fun (r5 : Bool) =>
                  (bif r5 then
                        bif decide ((↑(List.length p1.fst) : Int) ≥ (400 : Int)) then
                          some (Sum.inr ([], IntKind.i64.wrap (p1.snd.fst + (1 : Int)), (4 : Int)))
                        else
                          bif
                              decide ((0 : Int) ≤ p1.snd.snd) &&
                                (decide (p1.snd.snd ≤ r4) && decide (r4 ≤ (↑x0.size : Int))) then
                            (r60_line N (x0.extract (Int.toNat p1.snd.snd) r4.toNat)).bind fun (r6 : Event × Int) =>
                              bif r6.snd != (0 : Int) then
                                some (Sum.inr ([], IntKind.i64.wrap (p1.snd.fst + (1 : Int)), r6.snd))
                              else
                                (some [r6.fst]).bind fun (r7 : List Event) =>
                                  bif
                                      decide
                                        ((List.length p1.fst + r7.length) * 32 ≤ 140737488355328) then
                                    (some (p1.fst ++ r7)).bind fun (r8 : List Event) => some (Sum.inl r8)
                                  else none
                          else none
                      else some (Sum.inl p1.fst)).bind
                    fun (r9 : List Event ⊕ List Event × Int × Int) =>
                    Sum.elim
                      (fun (p10 : List Event) =>
                        some
                          (Sum.inl (p10, IntKind.i64.wrap (p1.snd.fst + (1 : Int)), IntKind.i64.wrap (r4 + (1 : Int)))))
                      (fun (p11 : List Event × Int × Int) => some (Sum.inr (Sum.inr p11))) r9
            else some (Sum.inr (Sum.inl p1.fst)))
          ([], (0 : Int), (0 : Int))).bind
      fun (r12 : List Event ⊕ List Event × Int × Int) =>
      Sum.elim (fun (p13 : List Event) => some (p13, (0 : Int), (0 : Int)))
        (fun (p14 : List Event × Int × Int) => some p14) r12
theorem d_r60_Parse (N : Nat) : DenF Tryd.prog 11 ⟨[.t_str], [.l_Event, .t_i64, .t_i64], [[some 39], [none], [none]], r60_Parse N⟩ :=
  den_of (N := N) (gam := [(21, ⟨[.t_str], [.t_Event, .t_i64], [[none, some 3], [none]], r60_line N⟩)]) (pan := []) (txt := []) (hints := [(11, [([0, 0, 1, 1, 1, 1, 1], ⟨[0], [.reg 5 .l_Event [some 39], .reg 6 .t_i64 [none], .reg 7 .t_i64 [none]], [(.ex 0, [.reg 5 .l_Event [some 39]]), (.ret, [.reg 2 .l_Event [some 39], .reg 3 .t_i64 [none], .reg 4 .t_i64 [none]])], []⟩), ([0, 0, 1, 0, 1, 0, 0, 0, 1, 1, 1, 1, 1], ⟨[0, 5, 6, 7], [.reg 8 .t_i64 [none]], [(.ex 2, [.reg 8 .t_i64 [none]])], []⟩), ([0, 0, 0, 0, 0, 1, 0, 1, 0, 0, 0, 1, 1, 1, 1, 1], ⟨[0, 5, 6, 7, 8], [], [(.nrm, [.reg 29 .t_bool [none]])], []⟩), ([0, 0, 1, 1, 1, 0, 1, 0, 0, 0, 1, 1, 1, 1, 1], ⟨[0, 5, 6, 7, 8], [], [(.nrm, [.reg 42 .t_bool [none]])], []⟩), ([1, 0, 1, 1, 1, 0, 1, 0, 0, 0, 1, 1, 1, 1, 1], ⟨[0, 6, 8], [], [(.nrm, [.reg 5 .l_Event [some 39]]), (.ret, [.reg 2 .l_Event [some 39], .reg 3 .t_i64 [none], .reg 4 .t_i64 [none]])], []⟩)])]) pok (.cons (d_r60_line N) .nil) .nil .nil Tryd.func11 (by kernel_rfl) (by kernel_rfl)

def l60_ScriptParses (N : Nat) (x0 : ByteArray) : Option Bool :=
 
  (l60_alive N).bind fun (r1 : Bool) =>
    bif !r1 then some false
    else
      bif decide ((↑x0.size : Int) > (21000 : Int)) then some true
      else
        (script_Parse N x0).bind fun (r2 : List Event × Int × Int) =>
          (r60_Parse N x0).bind fun (r3 : List Event × Int × Int) =>
            (bif r2.snd.fst == r3.snd.fst then
                  bif r2.snd.snd == r3.snd.snd then (r60_Same N r2.fst r3.fst).bind fun (r4 : Bool) => some r4
                  else some false
                else some false).bind
              fun (r5 : Bool) => some r5
theorem d_l60_ScriptParses (N : Nat) : DenF Tryd.prog 3 ⟨[.t_str], [.t_bool], [[none]], l60_ScriptParses N⟩ :=
  den_of (N := N) (gam := [(9, ⟨[], [.t_bool], [[none]], l60_alive N⟩), (10, ⟨[.t_str], [.l_Event, .t_i64, .t_i64], [[none], [none], [none]], script_Parse N⟩), (11, ⟨[.t_str], [.l_Event, .t_i64, .t_i64], [[some 39], [none], [none]], r60_Parse N⟩), (12, ⟨[.l_Event, .l_Event], [.t_bool], [[none]], r60_Same N⟩)]) (pan := []) (txt := []) (hints := [(3, [([0, 1, 1, 1, 1, 1], ⟨[], [], [(.nrm, [.reg 2 .t_bool [none]])], []⟩)])]) pok (.cons (d_l60_alive N) (.cons (d_script_Parse N) (.cons (d_r60_Parse N) (.cons (d_r60_Same N) .nil)))) .nil .nil Tryd.func3 (by kernel_rfl) (by kernel_rfl)

def r60_digits_b (rec : Int → Option ByteArray) (N : Nat) (x0 : Int) : Option ByteArray :=
 
  bif decide (x0 < (10 : Int)) then
    (some [IntKind.u8.wrap (IntKind.i64.wrap ((48 : Int) + x0))]).bind fun (r1 : List Int) => some (byU r1)
  else
    (rec (IntKind.i64.wrap (x0.tdiv (10 : Int)))).bind fun (r2 : ByteArray) =>
      (rec (x0.tmod (10 : Int))).bind fun (r3 : ByteArray) =>
        bif decide (r2.size + r3.size ≤ 9223372036854775807) then some (r2 ++ r3) else none
def r60_digits_k (N : Nat) : Nat → Int → Option ByteArray
  | 0 => fun _ => none
  | k + 1 => r60_digits_b (r60_digits_k N k) N
def r60_digits (N : Nat) : Int → Option ByteArray := r60_digits_k N N
theorem dk_r60_digits (N k : Nat) : DenF Tryd.prog 39 ⟨[.t_i64], [.t_str], [[none]], r60_digits_k N k⟩ := by
  induction k with
  | zero => exact DenF.noneOf Tryd.func39 (by kernel_rfl) rfl
  | succ k ih => exact den_of (N := N) (gam := [(39, ⟨[.t_i64], [.t_str], [[none]], r60_digits_k N k⟩)]) (pan := []) (txt := []) (hints := []) pok (.cons ih .nil) .nil .nil Tryd.func39 (by kernel_rfl) (by kernel_rfl)
theorem d_r60_digits (N : Nat) : DenF Tryd.prog 39 ⟨[.t_i64], [.t_str], [[none]], r60_digits N⟩ := dk_r60_digits N N

def r60_Number (N : Nat) (x0 : Int) : Option ByteArray :=
 
  bif decide (x0 ≥ (0 : Int)) then (r60_digits N x0).bind fun (r1 : ByteArray) => some r1
  else
    bif decide (x0 > (-10 : Int)) then
      (r60_digits N (IntKind.i64.wrap ((0 : Int) - x0))).bind fun (r2 : ByteArray) =>
        bif decide (1 + r2.size ≤ 9223372036854775807) then some (bL [45] ++ r2) else none
    else
      (r60_digits N (IntKind.i64.wrap ((0 : Int) - IntKind.i64.wrap (x0.tdiv (10 : Int))))).bind fun (r3 : ByteArray) =>
        bif decide (1 + r3.size ≤ 9223372036854775807) then
          (r60_digits N (IntKind.i64.wrap ((0 : Int) - x0.tmod (10 : Int)))).bind fun (r4 : ByteArray) =>
            bif decide ((bL [45] ++ r3).size + r4.size ≤ 9223372036854775807) then
              some (bL [45] ++ r3 ++ r4)
            else none
        else none
theorem d_r60_Number (N : Nat) : DenF Tryd.prog 25 ⟨[.t_i64], [.t_str], [[none]], r60_Number N⟩ :=
  den_of (N := N) (gam := [(39, ⟨[.t_i64], [.t_str], [[none]], r60_digits N⟩)]) (pan := []) (txt := []) (hints := []) pok (.cons (d_r60_digits N) .nil) .nil .nil Tryd.func25 (by kernel_rfl) (by kernel_rfl)

def r60_Reply (N : Nat) (x0 : Reply) : Option ByteArray :=
 
  bif x0.Err != (0 : Int) then
    (r60_Number N x0.Err).bind fun (r1 : ByteArray) =>
      bif decide (6 + r1.size ≤ 9223372036854775807) then
        some (bL [101, 114, 114, 111, 114, 32] ++ r1)
      else none
  else
    (r60_Number N x0.N).bind fun (r2 : ByteArray) =>
      bif decide (3 + r2.size ≤ 9223372036854775807) then
        (whileF N
              (fun (p3 : ByteArray × Int) =>
                bif decide (p3.snd < (↑x0.List.length : Int)) then
                  bif decide (ByteArray.size p3.fst + 1 ≤ 9223372036854775807) then
                    bif decide ((0 : Int) ≤ p3.snd) && decide (p3.snd < (↑x0.List.length : Int)) then
                      (r60_Number N (x0.List.getD (Int.toNat p3.snd) (0 : Int))).bind fun (r4 : ByteArray) =>
                        bif decide ((p3.fst ++ bL [32]).size + r4.size ≤ 9223372036854775807) then
                          some (Sum.inl (p3.fst ++ bL [32] ++ r4, IntKind.i64.wrap (p3.snd + (1 : Int))))
                        else none
                    else none
                  else none
                else some (Sum.inr p3.fst))
              (bL [111, 107, 32] ++ r2, (0 : Int))).bind
          fun (r5 : ByteArray) => some r5
      else none
theorem d_r60_Reply (N : Nat) : DenF Tryd.prog 14 ⟨[.t_Reply], [.t_str], [[none]], r60_Reply N⟩ :=
  den_of (N := N) (gam := [(25, ⟨[.t_i64], [.t_str], [[none]], r60_Number N⟩)]) (pan := []) (txt := []) (hints := [(14, [([0, 1, 0, 1, 1, 1], ⟨[1], [.reg 3 .t_str [none], .reg 4 .t_i64 [none]], [(.ex 0, [.reg 3 .t_str [none]])], []⟩)])]) pok (.cons (d_r60_Number N) .nil) .nil .nil Tryd.func14 (by kernel_rfl) (by kernel_rfl)

def l60_ScriptReplies (N : Nat) (x0 : Reply) : Option Bool :=
 
  (l60_alive N).bind fun (r1 : Bool) =>
    bif !r1 then some false
    else
      bif decide ((↑x0.List.length : Int) > (100 : Int)) then some true
      else
        (script_Reply N x0).bind fun (r2 : ByteArray) =>
          (r60_Reply N x0).bind fun (r3 : ByteArray) => some (r2.toList == r3.toList)
theorem d_l60_ScriptReplies (N : Nat) : DenF Tryd.prog 4 ⟨[.t_Reply], [.t_bool], [[none]], l60_ScriptReplies N⟩ :=
  den_of (N := N) (gam := [(9, ⟨[], [.t_bool], [[none]], l60_alive N⟩), (13, ⟨[.t_Reply], [.t_str], [[none]], script_Reply N⟩), (14, ⟨[.t_Reply], [.t_str], [[none]], r60_Reply N⟩)]) (pan := []) (txt := []) (hints := []) pok (.cons (d_l60_alive N) (.cons (d_script_Reply N) (.cons (d_r60_Reply N) .nil))) .nil .nil Tryd.func4 (by kernel_rfl) (by kernel_rfl)
end Go.Proofs.YtibcoiabdnbdjaaDoor
