/- Written by a program (gen.py, asm.py): what each function computes, as a plain function, and that its text computes it. No condition. -/
import Derived.Test.YtibcoiabdnbdjaaDoorHnd
import Derived.Test.YtibcoiabdnbdjaaDoorCmo
import Derived.Test.YtibcoiabdnbdjaaDoorCmv
namespace Go.Proofs.YtibcoiabdnbdjaaDoor
open Go.Cm Go.Proofs
set_option linter.unusedVariables false
set_option maxRecDepth 100000

def stringslite_Cut (N : Nat) (x0 x1 : ByteArray) : Option (ByteArray × ByteArray × Bool) :=
 
  (stringslite_Index N x0 x1).bind fun (r2 : Int) =>
    bif decide (r2 ≥ (0 : Int)) then
      bif decide ((0 : Int) ≤ r2) && decide (r2 ≤ (↑x0.size : Int)) then
        bif
            decide ((0 : Int) ≤ IntKind.i64.wrap (r2 + (↑x1.size : Int))) &&
              decide (IntKind.i64.wrap (r2 + (↑x1.size : Int)) ≤ (↑x0.size : Int)) then
          some
            (x0.extract 0 r2.toNat,
              x0.extract (IntKind.i64.wrap (r2 + (↑x1.size : Int))).toNat (↑x0.size : Int).toNat, true)
        else none
      else none
    else some (x0, bL [], false)
theorem d_stringslite_Cut (N : Nat) : DenF Tryd.prog 30 ⟨[.t_str, .t_str], [.t_str, .t_str, .t_bool], [[none], [none], [none]], stringslite_Cut N⟩ :=
  den_of (N := N) (gam := [(42, ⟨[.t_str, .t_str], [.t_i64], [[none]], stringslite_Index N⟩)]) (pan := []) (txt := []) (hints := []) pok (.cons (d_stringslite_Index N) .nil) .nil .nil Tryd.func30 (by kernel_rfl) (by kernel_rfl)

def strings_Cut (N : Nat) (x0 x1 : ByteArray) : Option (ByteArray × ByteArray × Bool) :=
  (stringslite_Cut N x0 x1).bind fun (r2 : ByteArray × ByteArray × Bool) => some r2
theorem d_strings_Cut (N : Nat) : DenF Tryd.prog 19 ⟨[.t_str, .t_str], [.t_str, .t_str, .t_bool], [[none], [none], [none]], strings_Cut N⟩ :=
  den_of (N := N) (gam := [(30, ⟨[.t_str, .t_str], [.t_str, .t_str, .t_bool], [[none], [none], [none]], stringslite_Cut N⟩)]) (pan := []) (txt := []) (hints := []) pok (.cons (d_stringslite_Cut N) .nil) .nil .nil Tryd.func19 (by kernel_rfl) (by kernel_rfl)

def script_kindOf (N : Nat) (x0 : ByteArray) : Option (Int × Bool) :=
 
  (whileF N
        (fun (p1 : Int) =>
          bif decide (p1 < (45 : Int)) then
            bif decide ((0 : Int) ≤ p1) && decide (p1 < (45 : Int) ∧ p1 < (↑tab_0.length : Int)) then
              bif (tab_0.getD p1.toNat z_form).word.toList == x0.toList then some (Sum.inr (Sum.inr (p1, true)))
              else some (Sum.inl (IntKind.i64.wrap (p1 + (1 : Int))))
            else none
          else some (Sum.inr (Sum.inl ())))
        (1 : Int)).bind
    fun (r2 : Unit ⊕ Int × Bool) =>
    Sum.elim (fun (p3 : Unit) => some ((0 : Int), false)) (fun (p4 : Int × Bool) => some p4) r2
theorem d_script_kindOf (N : Nat) : DenF Tryd.prog 31 ⟨[.t_str], [.t_i64, .t_bool], [[none], [none]], script_kindOf N⟩ :=
  den_of (N := N) (gam := []) (pan := []) (txt := []) (hints := [(31, [([0, 1, 0, 1], ⟨[0], [.reg 4 .t_i64 [none]], [(.ex 0, []), (.ret, [.reg 2 .t_i64 [none], .reg 3 .t_bool [none]])], []⟩)])]) pok .nil .nil .nil Tryd.func31 (by kernel_rfl) (by kernel_rfl)

def stringslite_HasPrefix (N : Nat) (x0 x1 : ByteArray) : Option Bool :=
 
  (bif decide ((↑x0.size : Int) ≥ (↑x1.size : Int)) then
        bif true && decide ((↑x1.size : Int) ≤ (↑x0.size : Int)) then
          some ((x0.extract 0 (↑x1.size : Int).toNat).toList == x1.toList)
        else none
      else some false).bind
    fun (r2 : Bool) => some r2
theorem d_stringslite_HasPrefix (N : Nat) : DenF Tryd.prog 57 ⟨[.t_str, .t_str], [.t_bool], [[none]], stringslite_HasPrefix N⟩ :=
  den_of (N := N) (gam := []) (pan := []) (txt := []) (hints := [(57, [([0, 1], ⟨[], [], [(.nrm, [.reg 4 .t_bool [none]])], []⟩)])]) pok .nil .nil .nil Tryd.func57 (by kernel_rfl) (by kernel_rfl)

def stringslite_CutPrefix (N : Nat) (x0 x1 : ByteArray) : Option (ByteArray × Bool) :=
 
  (stringslite_HasPrefix N x0 x1).bind fun (r2 : Bool) =>
    bif !r2 then some (x0, false)
    else
      bif true && decide ((↑x1.size : Int) ≤ (↑x0.size : Int)) then
        some (x0.extract (↑x1.size : Int).toNat (↑x0.size : Int).toNat, true)
      else none
theorem d_stringslite_CutPrefix (N : Nat) : DenF Tryd.prog 50 ⟨[.t_str, .t_str], [.t_str, .t_bool], [[none], [none]], stringslite_CutPrefix N⟩ :=
  den_of (N := N) (gam := [(57, ⟨[.t_str, .t_str], [.t_bool], [[none]], stringslite_HasPrefix N⟩)]) (pan := []) (txt := []) (hints := []) pok (.cons (d_stringslite_HasPrefix N) .nil) .nil .nil Tryd.func50 (by kernel_rfl) (by kernel_rfl)

def strings_CutPrefix (N : Nat) (x0 x1 : ByteArray) : Option (ByteArray × Bool) :=
  (stringslite_CutPrefix N x0 x1).bind fun (r2 : ByteArray × Bool) => some r2
theorem d_strings_CutPrefix (N : Nat) : DenF Tryd.prog 43 ⟨[.t_str, .t_str], [.t_str, .t_bool], [[none], [none]], strings_CutPrefix N⟩ :=
  den_of (N := N) (gam := [(50, ⟨[.t_str, .t_str], [.t_str, .t_bool], [[none], [none]], stringslite_CutPrefix N⟩)]) (pan := []) (txt := []) (hints := []) pok (.cons (d_stringslite_CutPrefix N) .nil) .nil .nil Tryd.func43 (by kernel_rfl) (by kernel_rfl)

def script_number (N : Nat) (x0 : ByteArray) : Option (Int × Bool) :=
 
  (strings_CutPrefix N x0 (bL [45])).bind fun (r1 : ByteArray × Bool) =>
    (bif ByteArray.toList r1.fst == [] then some true
        else
          bif true && decide ((0 : Int) < (↑(ByteArray.size r1.fst) : Int)) then
            bif byteAt r1.fst (0 : Int) == (48 : Int) then some !x0.toList == [(48 : UInt8)] else some false
          else none).bind
      fun (r2 : Bool) =>
      bif r2 then some ((0 : Int), false)
      else
        (whileF N
              (fun (p3 : Int × ByteArray × Nat) =>
                bif decide (p3.snd.snd < p3.snd.fst.size) then
                  (bif decide (runeAt p3.snd.fst p3.snd.snd < (48 : Int)) then some true
                      else some (decide (runeAt p3.snd.fst p3.snd.snd > (57 : Int)))).bind
                    fun (r4 : Bool) =>
                    bif r4 then
                      some (Sum.inr (Sum.inr ((0 : Int), false, p3.snd.fst, p3.snd.snd + runeW p3.snd.fst p3.snd.snd)))
                    else
                      some
                        (Sum.inl
                          (min
                              (IntKind.i64.wrap
                                (IntKind.i64.wrap ((10 : Int) * p3.fst) +
                                  IntKind.i64.wrap (IntKind.i32.wrap (runeAt p3.snd.fst p3.snd.snd - (48 : Int)))))
                              (1125899906842625 : Int),
                            p3.snd.fst, p3.snd.snd + runeW p3.snd.fst p3.snd.snd))
                else some (Sum.inr (Sum.inl p3)))
              ((0 : Int), r1.fst, 0)).bind
          fun (r5 : Int × ByteArray × Nat ⊕ Int × Bool × ByteArray × Nat) =>
          Sum.elim
            (fun (p6 : Int × ByteArray × Nat) =>
              (bif r1.snd then some (IntKind.i64.wrap ((0 : Int) - p6.fst)) else some p6.fst).bind fun (r7 : Int) =>
                some (r7, true))
            (fun (p8 : Int × Bool × ByteArray × Nat) => some (p8.fst, p8.snd.fst)) r5
theorem d_script_number (N : Nat) : DenF Tryd.prog 32 ⟨[.t_str], [.t_i64, .t_bool], [[none], [none]], script_number N⟩ :=
  den_of (N := N) (gam := [(43, ⟨[.t_str, .t_str], [.t_str, .t_bool], [[none], [none]], strings_CutPrefix N⟩)]) (pan := []) (txt := []) (hints := [(32, [([0, 0, 1, 1], ⟨[4, 5], [], [(.nrm, [.reg 24 .t_bool [none]])], []⟩), ([0, 1, 0, 1, 1, 1, 1], ⟨[5, 26], [.reg 6 .t_i64 [none], .itr 26 .t_bool], [(.ex 0, [.reg 6 .t_i64 [none], .itr 26 .t_bool]), (.ret, [.reg 2 .t_i64 [none], .reg 3 .t_bool [none], .itr 26 .t_bool])], []⟩), ([0, 0, 1, 0, 1, 1, 0, 0, 1, 0, 1, 1, 1, 1], ⟨[5, 6, 8, 26], [], [(.nrm, [.reg 35 .t_bool [none]])], []⟩), ([1, 0, 1, 1, 1, 1, 1], ⟨[], [], [(.nrm, [.reg 6 .t_i64 [none]])], []⟩)])]) pok (.cons (d_strings_CutPrefix N) .nil) .nil .nil Tryd.func32 (by kernel_rfl) (by kernel_rfl)

def script_inRange (N : Nat) (x0 : Int) : Option Bool :=
 
  (bif decide (x0 ≥ (-1125899906842624 : Int)) then some (decide (x0 ≤ (1125899906842624 : Int))) else some false).bind
    fun (r1 : Bool) => some r1
theorem d_script_inRange (N : Nat) : DenF Tryd.prog 27 ⟨[.t_i64], [.t_bool], [[none]], script_inRange N⟩ :=
  den_of (N := N) (gam := []) (pan := []) (txt := []) (hints := [(27, [([0, 1], ⟨[], [], [(.nrm, [.reg 2 .t_bool [none]])], []⟩)])]) pok .nil .nil .nil Tryd.func27 (by kernel_rfl) (by kernel_rfl)

def script_fits (N : Nat) (x0 x1 : Int) : Option Bool :=
 
  bif decide ((0 : Int) ≤ x0) && decide (x0 < (45 : Int) ∧ x0 < (↑tab_0.length : Int)) then
    (bif IntKind.i64.wrap (x1 - (tab_0.getD x0.toNat z_form).args) == (0 : Int) then some true
        else
          bif decide ((0 : Int) ≤ x0) && decide (x0 < (45 : Int) ∧ x0 < (↑tab_0.length : Int)) then
            bif (tab_0.getD x0.toNat z_form).more then
              bif decide (IntKind.i64.wrap (x1 - (tab_0.getD x0.toNat z_form).args) > (0 : Int)) then
                some (decide (IntKind.i64.wrap (x1 - (tab_0.getD x0.toNat z_form).args) ≤ (40 : Int)))
              else some false
            else some false
          else none).bind
      fun (r2 : Bool) => some r2
  else none
theorem d_script_fits (N : Nat) : DenF Tryd.prog 26 ⟨[.t_i64, .t_i64], [.t_bool], [[none]], script_fits N⟩ :=
  den_of (N := N) (gam := []) (pan := []) (txt := []) (hints := [(26, [([0, 1, 1], ⟨[], [], [(.nrm, [.reg 4 .t_bool [none]])], []⟩)])]) pok .nil .nil .nil Tryd.func26 (by kernel_rfl) (by kernel_rfl)

def script_read (N : Nat) (x0 : ByteArray) (x1 : Int) : Option (Sum Event failure) :=
 
  (strings_Cut N x0 (bL [32])).bind fun (r2 : ByteArray × ByteArray × Bool) =>
    (script_kindOf N r2.fst).bind fun (r3 : Int × Bool) =>
      (bif !r3.snd then some (Sum.inr (failure.mk x1 (18 : Int), ())) else some (Sum.inl ())).bind
        fun (r4 : Unit ⊕ failure × Unit) =>
        Sum.elim
          (fun (p5 : Unit) =>
            (whileF N
                  (fun (p6 : ByteArray × Bool × List Int × Bool) =>
                    bif p6.snd.fst then
                      (strings_Cut N p6.fst (bL [32])).bind fun (r7 : ByteArray × ByteArray × Bool) =>
                        (script_number N r7.fst).bind fun (r8 : Int × Bool) =>
                          (bif !r8.snd then some (Sum.inr (failure.mk x1 (3 : Int), ())) else some (Sum.inl ())).bind
                            fun (r9 : Unit ⊕ failure × Unit) =>
                            Sum.elim
                              (fun (p10 : Unit) =>
                                (some [r8.fst]).bind fun (r11 : List Int) =>
                                  bif
                                      decide
                                        ((List.length p6.snd.snd.fst + r11.length) * 8 ≤
                                          140737488355328) then
                                    (some (p6.snd.snd.fst ++ r11)).bind fun (r12 : List Int) =>
                                      (bif p6.snd.snd.snd then
                                            (script_inRange N r8.fst).bind fun (r13 : Bool) => some r13
                                          else some false).bind
                                        fun (r14 : Bool) => some (Sum.inl (r7.snd.fst, r7.snd.snd, r12, r14))
                                  else none)
                              (fun (p15 : failure × Unit) => some (Sum.inr (Sum.inr (p15.fst, ())))) r9
                    else some (Sum.inr (Sum.inl p6.snd.snd)))
                  (r2.snd.fst, r2.snd.snd, [], true)).bind
              fun (r16 : List Int × Bool ⊕ failure × Unit) =>
              Sum.elim
                (fun (p17 : List Int × Bool) =>
                  (script_fits N r3.fst (↑(List.length p17.fst) : Int)).bind fun (r18 : Bool) =>
                    (bif !r18 then some (Sum.inr (failure.mk x1 (3 : Int), ())) else some (Sum.inl ())).bind
                      fun (r19 : Unit ⊕ failure × Unit) =>
                      Sum.elim
                        (fun (p20 : Unit) =>
                          (bif !p17.snd then some (Sum.inr (failure.mk x1 (2 : Int), ())) else some (Sum.inl ())).bind
                            fun (r21 : Unit ⊕ failure × Unit) =>
                            Sum.elim (fun (p22 : Unit) => some (Sum.inl (Event.mk r3.fst p17.fst)))
                              (fun (p23 : failure × Unit) => some (Sum.inr p23.fst)) r21)
                        (fun (p24 : failure × Unit) => some (Sum.inr p24.fst)) r19)
                (fun (p25 : failure × Unit) => some (Sum.inr p25.fst)) r16)
          (fun (p26 : failure × Unit) => some (Sum.inr p26.fst)) r4
theorem d_script_read (N : Nat) : DenP Tryd.prog 20 ⟨[.t_str, .t_i64], [.t_Event], [[none, some 3]], 41, .t_failure, script_read N⟩ :=
  den_ofP (N := N) (gam := [(19, ⟨[.t_str, .t_str], [.t_str, .t_str, .t_bool], [[none], [none], [none]], strings_Cut N⟩), (31, ⟨[.t_str], [.t_i64, .t_bool], [[none], [none]], script_kindOf N⟩), (32, ⟨[.t_str], [.t_i64, .t_bool], [[none], [none]], script_number N⟩), (27, ⟨[.t_i64], [.t_bool], [[none]], script_inRange N⟩), (26, ⟨[.t_i64, .t_i64], [.t_bool], [[none]], script_fits N⟩)]) (pan := []) (txt := []) (hints := [(20, [([1, 0, 1, 1, 1], ⟨[1, 4, 6, 7, 8], [], [(.nrm, []), (.panP 41 .t_failure, [])], []⟩), ([0, 0, 1, 1, 1, 1, 1, 1], ⟨[1, 4, 8], [.reg 6 .t_str [none], .reg 7 .t_bool [none], .reg 10 .l_i64 [some 3], .reg 11 .t_bool [none]], [(.ex 0, [.reg 10 .l_i64 [some 3], .reg 11 .t_bool [none]]), (.panP 41 .t_failure, [])], []⟩), ([1, 0, 1, 1, 1, 0, 1, 0, 0, 0, 1, 1, 1, 1, 1, 1], ⟨[1, 4, 6, 7, 8, 10, 11, 13], [], [(.nrm, []), (.panP 41 .t_failure, [])], []⟩), ([1, 1, 1, 1, 1, 0, 1, 0, 0, 0, 1, 1, 1, 1, 1, 1], ⟨[1, 4, 6, 7, 8, 10], [], [(.nrm, [.reg 11 .t_bool [none]])], []⟩), ([1, 0, 1, 1, 1, 1, 1, 1, 1], ⟨[1, 4, 8, 10, 11], [], [(.nrm, []), (.panP 41 .t_failure, [])], []⟩), ([1, 0, 1, 1, 1, 1, 1, 1, 1, 1], ⟨[4, 8, 10], [], [(.nrm, []), (.panP 41 .t_failure, [])], []⟩)])]) pok (.cons (d_strings_Cut N) (.cons (d_script_kindOf N) (.cons (d_script_number N) (.cons (d_script_inRange N) (.cons (d_script_fits N) .nil))))) .nil .nil Tryd.func20 (by kernel_rfl) (by kernel_rfl)

def script_Parse (N : Nat) (x0 : ByteArray) : Option ((List Event) × Int × Int) :=
 
  bif decide ((↑x0.size : Int) > (20000 : Int)) then some ([], (0 : Int), (4 : Int))
  else
    (whileF N
          (fun (p1 : ByteArray × Int × List Event) =>
            bif !ByteArray.toList p1.fst == [] then
              ((strings_Cut N p1.fst (bL [10])).bind fun (r2 : ByteArray × ByteArray × Bool) =>
                    (bif ByteArray.toList r2.fst == [] then some true
                        else
                          bif true && decide ((0 : Int) < (↑(ByteArray.size r2.fst) : Int)) then
                            some (byteAt r2.fst (0 : Int) == (35 : Int))
                          else none).bind
                      fun (r3 : Bool) =>
                      bif r3 then some (Sum.inl (r2.snd.fst, p1.snd.snd))
                      else
                        (bif decide ((↑(List.length p1.snd.snd) : Int) ≥ (400 : Int)) then
                              some (Sum.inr (failure.mk p1.snd.fst (4 : Int), ()))
                            else some (Sum.inl ())).bind
                          fun (r4 : Unit ⊕ failure × Unit) =>
                          Sum.elim
                            (fun (p5 : Unit) =>
                              (script_read N r2.fst p1.snd.fst).bind fun (r6 : Event ⊕ failure) =>
                                Sum.elim
                                  (fun (p7 : Event) =>
                                    (some [p7]).bind fun (r8 : List Event) =>
                                      bif
                                          decide
                                            ((List.length p1.snd.snd + r8.length) * 32 ≤
                                              140737488355328) then
                                        (some (p1.snd.snd ++ r8)).bind fun (r9 : List Event) =>
                                          some (Sum.inl (r2.snd.fst, r9))
                                      else none)
                                  (fun (p10 : failure) => some (Sum.inr (p10, p1.snd.snd))) r6)
                            (fun (p11 : failure × Unit) => some (Sum.inr (p11.fst, p1.snd.snd))) r4).bind
                fun (r12 : ByteArray × List Event ⊕ failure × List Event) =>
                Sum.elim
                  (fun (p13 : ByteArray × List Event) =>
                    some (Sum.inl (p13.fst, IntKind.i64.wrap (p1.snd.fst + (1 : Int)), p13.snd)))
                  (fun (p14 : failure × List Event) => some (Sum.inr (Sum.inr p14))) r12
            else some (Sum.inr (Sum.inl p1.snd.snd)))
          (x0, (1 : Int), [])).bind
      fun (r15 : List Event ⊕ failure × List Event) =>
      Sum.elim (fun (p16 : List Event) => some (p16, (0 : Int), (0 : Int)))
        (fun (p17 : failure × List Event) => some ([], p17.fst.line, p17.fst.err)) r15
theorem d_script_Parse (N : Nat) : DenF Tryd.prog 10 ⟨[.t_str], [.l_Event, .t_i64, .t_i64], [[none], [none], [none]], script_Parse N⟩ :=
  den_ofD (N := N) (gam := [(19, ⟨[.t_str, .t_str], [.t_str, .t_str, .t_bool], [[none], [none], [none]], strings_Cut N⟩)]) (pan := [(20, ⟨[.t_str, .t_i64], [.t_Event], [[none, some 3]], 41, .t_failure, script_read N⟩)]) (txt := [(18, Tryd.f18)]) (hints := [(10, [([0, 1, 0, 1, 1, 1], ⟨[2, 3, 4], [.reg 0 .t_str [none], .reg 5 .t_i64 [none], .var 2 .l_Event [some 39]], [(.ex 0, [.var 2 .l_Event [some 39]]), (.panP 41 .t_failure, [.var 2 .l_Event [some 39]])], []⟩), ([0, 1, 0, 0, 1, 0, 1, 1, 1], ⟨[2, 3, 4, 5], [], [(.nrm, [.reg 0 .t_str [none], .var 2 .l_Event [some 39]]), (.panP 41 .t_failure, [.var 2 .l_Event [some 39]])], []⟩), ([0, 0, 1, 1, 0, 0, 1, 0, 0, 1, 0, 1, 1, 1], ⟨[0, 2, 3, 4, 5, 6], [], [(.nrm, [.reg 30 .t_bool [none]])], []⟩), ([1, 0, 1, 1, 1, 0, 0, 1, 0, 0, 1, 0, 1, 1, 1], ⟨[0, 2, 3, 4, 5, 6], [], [(.nrm, []), (.panP 41 .t_failure, [])], []⟩)])]) pok (.cons (d_strings_Cut N) .nil) (.cons (d_script_read N) .nil) (.cons Tryd.func18 .nil) Tryd.func10 (by kernel_rfl) (by kernel_rfl)

def r60_Same (N : Nat) (x0 x1 : List Event) : Option Bool :=
 
  bif (↑x0.length : Int) != (↑x1.length : Int) then some false
  else
    (whileF N
          (fun (p2 : Int) =>
            bif decide (p2 < (↑x0.length : Int)) then
              (bif decide ((0 : Int) ≤ p2) && decide (p2 < (↑x0.length : Int)) then
                    bif decide ((0 : Int) ≤ p2) && decide (p2 < (↑x1.length : Int)) then
                      bif (x0.getD p2.toNat z_Event).Kind != (x1.getD p2.toNat z_Event).Kind then some true
                      else
                        bif decide ((0 : Int) ≤ p2) && decide (p2 < (↑x0.length : Int)) then
                          bif decide ((0 : Int) ≤ p2) && decide (p2 < (↑x1.length : Int)) then
                            some
                              ((↑(x0.getD p2.toNat z_Event).Args.length : Int) !=
                                (↑(x1.getD p2.toNat z_Event).Args.length : Int))
                          else none
                        else none
                    else none
                  else none).bind
                fun (r3 : Bool) =>
                bif r3 then some (Sum.inr (Sum.inr false))
                else
                  (whileF N
                        (fun (p4 : Int) =>
                          bif decide ((0 : Int) ≤ p2) && decide (p2 < (↑x0.length : Int)) then
                            bif decide (p4 < (↑(x0.getD p2.toNat z_Event).Args.length : Int)) then
                              bif decide ((0 : Int) ≤ p2) && decide (p2 < (↑x0.length : Int)) then
                                bif
                                    decide ((0 : Int) ≤ p4) &&
                                      decide (p4 < (↑(x0.getD p2.toNat z_Event).Args.length : Int)) then
                                  bif decide ((0 : Int) ≤ p2) && decide (p2 < (↑x1.length : Int)) then
                                    bif
                                        decide ((0 : Int) ≤ p4) &&
                                          decide (p4 < (↑(x1.getD p2.toNat z_Event).Args.length : Int)) then
                                      bif
                                          (x0.getD p2.toNat z_Event).Args.getD p4.toNat (0 : Int) !=
                                            (x1.getD p2.toNat z_Event).Args.getD p4.toNat (0 : Int) then
                                        some (Sum.inr (Sum.inr false))
                                      else some (Sum.inl (IntKind.i64.wrap (p4 + (1 : Int))))
                                    else none
                                  else none
                                else none
                              else none
                            else some (Sum.inr (Sum.inl ()))
                          else none)
                        (0 : Int)).bind
                    fun (r5 : Unit ⊕ Bool) =>
                    Sum.elim (fun (p6 : Unit) => some (Sum.inl (IntKind.i64.wrap (p2 + (1 : Int)))))
                      (fun (p7 : Bool) => some (Sum.inr (Sum.inr p7))) r5
            else some (Sum.inr (Sum.inl ())))
          (0 : Int)).bind
      fun (r8 : Unit ⊕ Bool) => Sum.elim (fun (p9 : Unit) => some true) (fun (p10 : Bool) => some p10) r8
theorem d_r60_Same (N : Nat) : DenF Tryd.prog 12 ⟨[.l_Event, .l_Event], [.t_bool], [[none]], r60_Same N⟩ :=
  den_of (N := N) (gam := []) (pan := []) (txt := []) (hints := [(12, [([0, 1, 0, 1, 1], ⟨[0, 1], [.reg 5 .t_i64 [none]], [(.ex 0, []), (.ret, [.reg 4 .t_bool [none]])], []⟩), ([0, 0, 0, 0, 1, 0, 0, 1, 0, 1, 1], ⟨[0, 1, 5], [], [(.nrm, [.reg 43 .t_bool [none]])], []⟩), ([0, 1, 1, 0, 0, 1, 0, 0, 1, 0, 1, 1], ⟨[0, 1, 5], [.reg 6 .t_i64 [none]], [(.ex 2, []), (.ret, [.reg 4 .t_bool [none]])], []⟩)])]) pok .nil .nil .nil Tryd.func12 (by kernel_rfl) (by kernel_rfl)

def script_Reply (N : Nat) (x0 : Reply) : Option ByteArray :=
 
  bif x0.Err != (0 : Int) then
    (strconv_Itoa N x0.Err).bind fun (r1 : ByteArray) =>
      bif decide (6 + r1.size ≤ 9223372036854775807) then
        some (bL [101, 114, 114, 111, 114, 32] ++ r1)
      else none
  else
    (strconv_Itoa N x0.N).bind fun (r2 : ByteArray) =>
      bif decide (3 + r2.size ≤ 9223372036854775807) then
        bif
            decide
              ((0 + (strU (bL [111, 107, 32] ++ r2)).length) * 1 ≤
                140737488355328) then
          (some ([] ++ strU (bL [111, 107, 32] ++ r2))).bind fun (r3 : List Int) =>
            (whileF N
                  (fun (p4 : Int × Builder) =>
                    bif decide (p4.fst < (↑x0.List.length : Int)) then
                      bif decide ((0 : Int) ≤ p4.fst) && decide (p4.fst < (↑x0.List.length : Int)) then
                        (strconv_Itoa N (x0.List.getD (Int.toNat p4.fst) (0 : Int))).bind fun (r5 : ByteArray) =>
                          bif decide (1 + r5.size ≤ 9223372036854775807) then
                            bif
                                decide
                                  ((p4.snd.buf.length + (strU (bL [32] ++ r5)).length) * 1 ≤
                                    140737488355328) then
                              (some (p4.snd.buf ++ strU (bL [32] ++ r5))).bind fun (r6 : List Int) =>
                                some (Sum.inl (IntKind.i64.wrap (p4.fst + (1 : Int)), Builder.mk false r6))
                            else none
                          else none
                      else none
                    else some (Sum.inr (Builder.mk false p4.snd.buf)))
                  ((0 : Int), Builder.mk false r3)).bind
              fun (r7 : Builder) =>
              bif decide ((↑r7.buf.length : Int) = (↑r7.buf.length : Int)) then some (byU r7.buf) else none
        else none
      else none
theorem d_script_Reply (N : Nat) : DenF Tryd.prog 13 ⟨[.t_Reply], [.t_str], [[none]], script_Reply N⟩ :=
  den_of (N := N) (gam := [(22, ⟨[.t_i64], [.t_str], [[none]], strconv_Itoa N⟩)]) (pan := []) (txt := [(23, Tryd.f23), (24, Tryd.f24)]) (hints := [(13, [([0, 1, 0, 1, 1, 1, 1], ⟨[3, 19, 20], [.reg 21 .t_i64 [none], .vars 3 .t_Builder [none, some 5] [0, 1]], [(.ex 0, [.vars 3 .t_Builder [none, some 5] [0, 1]])], []⟩)])]) pok (.cons (d_strconv_Itoa N) .nil) .nil (.cons Tryd.func23 (.cons Tryd.func24 .nil)) Tryd.func13 (by kernel_rfl) (by kernel_rfl)

def l60_alive (N : Nat) : Option Bool :=
 
  (script_Parse N
        (bL
          [116, 105, 99, 107, 32, 54, 48, 10,
            35, 32, 120, 10, 112, 97, 115, 115,
            32, 53, 32, 49, 10])).bind
    fun (r0 : List Event × Int × Int) =>
    (bif r0.snd.snd != (0 : Int) then some true
        else
          bif r0.snd.fst != (0 : Int) then some true
          else
            (some [(60 : Int)]).bind fun (r1 : List Int) =>
              (some [(5 : Int), (1 : Int)]).bind fun (r2 : List Int) =>
                (some [Event.mk (1 : Int) r1, Event.mk (5 : Int) r2]).bind fun (r3 : List Event) =>
                  (r60_Same N r0.fst r3).bind fun (r4 : Bool) => some !r4).bind
      fun (r5 : Bool) =>
      bif r5 then some false
      else
        (script_Parse N
              (bL
                [116, 105, 99, 107, 32, 48, 54,
                  48])).bind
          fun (r6 : List Event × Int × Int) =>
          (script_Parse N (bL [116, 105, 99, 107])).bind
            fun (r7 : List Event × Int × Int) =>
            (script_Parse N (bL [116, 111, 99, 107, 32, 49])).bind
              fun (r8 : List Event × Int × Int) =>
              (script_Parse N
                    (bL
                      [10, 116, 105, 99, 107, 32, 32,
                        49])).bind
                fun (r9 : List Event × Int × Int) =>
                (bif r6.snd.fst != (1 : Int) then some true
                    else
                      bif r6.snd.snd != (3 : Int) then some true
                      else
                        bif r7.snd.fst != (1 : Int) then some true
                        else
                          bif r7.snd.snd != (3 : Int) then some true
                          else
                            bif r8.snd.fst != (1 : Int) then some true
                            else
                              bif r8.snd.snd != (18 : Int) then some true
                              else bif r9.snd.fst != (2 : Int) then some true else some (r9.snd.snd != (3 : Int))).bind
                  fun (r10 : Bool) =>
                  bif r10 then some false
                  else
                    ((script_Reply N (Reply.mk (10 : Int) (0 : Int) [])).bind fun (r11 : ByteArray) =>
                          bif
                              r11.toList ==
                                [(101 : UInt8), (114 : UInt8), (114 : UInt8), (111 : UInt8), (114 : UInt8),
                                  (32 : UInt8), (49 : UInt8), (48 : UInt8)] then
                            (some [(1 : Int), (2 : Int)]).bind fun (r12 : List Int) =>
                              (script_Reply N (Reply.mk (0 : Int) (3 : Int) r12)).bind fun (r13 : ByteArray) =>
                                some
                                  (r13.toList ==
                                    [(111 : UInt8), (107 : UInt8), (32 : UInt8), (51 : UInt8), (32 : UInt8),
                                      (49 : UInt8), (32 : UInt8), (50 : UInt8)])
                          else some false).bind
                      fun (r14 : Bool) => some r14
theorem d_l60_alive (N : Nat) : DenF Tryd.prog 9 ⟨[], [.t_bool], [[none]], l60_alive N⟩ :=
  den_of (N := N) (gam := [(10, ⟨[.t_str], [.l_Event, .t_i64, .t_i64], [[none], [none], [none]], script_Parse N⟩), (12, ⟨[.l_Event, .l_Event], [.t_bool], [[none]], r60_Same N⟩), (13, ⟨[.t_Reply], [.t_str], [[none]], script_Reply N⟩)]) (pan := []) (txt := []) (hints := [(9, [([0, 0, 1, 1], ⟨[], [], [(.nrm, [.reg 36 .t_bool [none]])], []⟩), ([0, 0, 1, 1, 1, 1, 1, 1, 1], ⟨[], [], [(.nrm, [.reg 86 .t_bool [none]])], []⟩), ([0, 1, 1, 1, 1, 1, 1, 1, 1], ⟨[], [], [(.nrm, [.reg 0 .t_bool [none]])], []⟩)])]) pok (.cons (d_script_Parse N) (.cons (d_r60_Same N) (.cons (d_script_Reply N) .nil))) .nil .nil Tryd.func9 (by kernel_rfl) (by kernel_rfl)
end Go.Proofs.YtibcoiabdnbdjaaDoor
