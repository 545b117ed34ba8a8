/- Written by a program (gen.py, asm.py): what each function computes, as a plain function, and that its text computes it. No condition. -/
import Derived.Test.YtibcoiabdnbdjaaDoorFn2
import Derived.Test.YtibcoiabdnbdjaaDoorCmo
import Derived.Test.YtibcoiabdnbdjaaDoorCmv
namespace Go.Proofs.YtibcoiabdnbdjaaDoor
open Go.Cm Go.Proofs
set_option linter.unusedVariables false
set_option maxRecDepth 100000

def l60_ScriptParts (N : Nat) (x0 x1 : ByteArray) : Option Bool :=
 
  (l60_alive N).bind fun (r2 : Bool) =>
    bif !r2 then some false
    else
      (bif decide ((↑x0.size : Int) > (9900 : Int)) then some true
          else some (decide ((↑x1.size : Int) > (9900 : Int)))).bind
        fun (r3 : Bool) =>
        bif r3 then some true
        else
          (script_Parse N x0).bind fun (r4 : List Event × Int × Int) =>
            (script_Parse N x1).bind fun (r5 : List Event × Int × Int) =>
              bif decide (x0.size + 1 ≤ 9223372036854775807) then
                bif decide ((x0 ++ bL [10]).size + x1.size ≤ 9223372036854775807) then
                  (script_Parse N (x0 ++ bL [10] ++ x1)).bind fun (r6 : List Event × Int × Int) =>
                    (bif r4.snd.snd != (0 : Int) then some true
                        else
                          bif r5.snd.snd != (0 : Int) then some true
                          else
                            some
                              (decide
                                (IntKind.i64.wrap ((↑(List.length r4.fst) : Int) + (↑(List.length r5.fst) : Int)) >
                                  (400 : Int)))).bind
                      fun (r7 : Bool) =>
                      bif r7 then
                        (bif r6.snd.snd != (0 : Int) then
                              bif (↑(List.length r6.fst) : Int) == (0 : Int) then some (decide (r6.snd.fst > (0 : Int)))
                              else some false
                            else some false).bind
                          fun (r8 : Bool) => some r8
                      else
                        (bif r6.snd.fst == (0 : Int) then
                              bif r6.snd.snd == (0 : Int) then
                                bif
                                    decide
                                      ((0 + List.length r4.fst) * 32 ≤ 140737488355328) then
                                  (some ([] ++ r4.fst)).bind fun (r9 : List Event) =>
                                    bif
                                        decide
                                          ((r9.length + List.length r5.fst) * 32 ≤ 140737488355328) then
                                      (some (r9 ++ r5.fst)).bind fun (r10 : List Event) =>
                                        (r60_Same N r6.fst r10).bind fun (r11 : Bool) => some r11
                                    else none
                                else none
                              else some false
                            else some false).bind
                          fun (r12 : Bool) => some r12
                else none
              else none
theorem d_l60_ScriptParts (N : Nat) : DenF Tryd.prog 5 ⟨[.t_str, .t_str], [.t_bool], [[none]], l60_ScriptParts N⟩ :=
  den_of (N := N) (gam := [(9, ⟨[], [.t_bool], [[none]], l60_alive N⟩), (10, ⟨[.t_str], [.l_Event, .t_i64, .t_i64], [[none], [none], [none]], script_Parse N⟩), (12, ⟨[.l_Event, .l_Event], [.t_bool], [[none]], r60_Same N⟩)]) (pan := []) (txt := []) (hints := [(5, [([0, 0, 1, 1], ⟨[0, 1], [], [(.nrm, [.reg 23 .t_bool [none]])], []⟩), ([0, 0, 1, 1, 1, 1, 1, 1], ⟨[5, 8, 11, 12, 13], [], [(.nrm, [.reg 58 .t_bool [none]])], []⟩), ([0, 0, 1, 0, 1, 1, 1, 1, 1, 1], ⟨[], [], [(.nrm, [.reg 4 .t_bool [none]])], []⟩), ([0, 1, 1, 1, 1, 1, 1, 1], ⟨[], [], [(.nrm, [.reg 4 .t_bool [none]])], []⟩)])]) pok (.cons (d_l60_alive N) (.cons (d_script_Parse N) (.cons (d_r60_Same N) .nil))) .nil .nil Tryd.func5 (by kernel_rfl) (by kernel_rfl)

def l60_small (N : Nat) (x0 : List Event) : Option Bool :=
 
  bif decide ((↑x0.length : Int) > (420 : Int)) then some false
  else
    (whileF N
          (fun (p1 : Int) =>
            bif decide (p1 < (↑x0.length : Int)) then
              bif decide ((0 : Int) ≤ p1) && decide (p1 < (↑x0.length : Int)) then
                bif decide ((↑(x0.getD p1.toNat z_Event).Args.length : Int) > (60 : Int)) then
                  some (Sum.inr (Sum.inr false))
                else some (Sum.inl (IntKind.i64.wrap (p1 + (1 : Int))))
              else none
            else some (Sum.inr (Sum.inl ())))
          (0 : Int)).bind
      fun (r2 : Unit ⊕ Bool) => Sum.elim (fun (p3 : Unit) => some true) (fun (p4 : Bool) => some p4) r2
theorem d_l60_small (N : Nat) : DenF Tryd.prog 15 ⟨[.l_Event], [.t_bool], [[none]], l60_small N⟩ :=
  den_of (N := N) (gam := []) (pan := []) (txt := []) (hints := [(15, [([0, 1, 0, 1, 1], ⟨[0], [.reg 3 .t_i64 [none]], [(.ex 0, []), (.ret, [.reg 2 .t_bool [none]])], []⟩)])]) pok .nil .nil .nil Tryd.func15 (by kernel_rfl) (by kernel_rfl)

def script_Print (N : Nat) (x0 : List Event) : Option (ByteArray × Int) :=
 
  (whileF N
        (fun (p1 : Int × Builder) =>
          bif decide (p1.fst < (↑x0.length : Int)) then
            bif decide ((0 : Int) ≤ p1.fst) && decide (p1.fst < (↑x0.length : Int)) then
              (bif decide ((x0.getD (Int.toNat p1.fst) z_Event).Kind < (1 : Int)) then some true
                  else some (decide ((x0.getD (Int.toNat p1.fst) z_Event).Kind ≥ (45 : Int)))).bind
                fun (r2 : Bool) =>
                bif r2 then some (Sum.inr (Sum.inr (bL [], (18 : Int), Builder.mk false p1.snd.buf)))
                else
                  (script_fits N (x0.getD (Int.toNat p1.fst) z_Event).Kind
                        (↑(x0.getD (Int.toNat p1.fst) z_Event).Args.length : Int)).bind
                    fun (r3 : Bool) =>
                    bif !r3 then some (Sum.inr (Sum.inr (bL [], (3 : Int), Builder.mk false p1.snd.buf)))
                    else
                      bif
                          decide ((0 : Int) ≤ (x0.getD (Int.toNat p1.fst) z_Event).Kind) &&
                            decide
                              ((x0.getD (Int.toNat p1.fst) z_Event).Kind < (45 : Int) ∧
                                (x0.getD (Int.toNat p1.fst) z_Event).Kind < (↑tab_0.length : Int)) then
                        bif
                            decide
                              ((p1.snd.buf.length +
                                    (strU
                                        (tab_0.getD (x0.getD (Int.toNat p1.fst) z_Event).Kind.toNat
                                            z_form).word).length) *
                                  1 ≤
                                140737488355328) then
                          (some
                                (p1.snd.buf ++
                                  strU
                                    (tab_0.getD (x0.getD (Int.toNat p1.fst) z_Event).Kind.toNat z_form).word)).bind
                            fun (r4 : List Int) =>
                            (whileF N
                                  (fun (p5 : Int × Builder) =>
                                    bif decide (p5.fst < (↑(x0.getD (Int.toNat p1.fst) z_Event).Args.length : Int)) then
                                      bif
                                          decide ((0 : Int) ≤ p5.fst) &&
                                            decide
                                              (p5.fst < (↑(x0.getD (Int.toNat p1.fst) z_Event).Args.length : Int)) then
                                        (script_inRange N
                                              ((x0.getD (Int.toNat p1.fst) z_Event).Args.getD (Int.toNat p5.fst)
                                                (0 : Int))).bind
                                          fun (r6 : Bool) =>
                                          bif !r6 then
                                            some (Sum.inr (Sum.inr (bL [], (2 : Int), Builder.mk false p5.snd.buf)))
                                          else
                                            (strconv_Itoa N
                                                  ((x0.getD (Int.toNat p1.fst) z_Event).Args.getD (Int.toNat p5.fst)
                                                    (0 : Int))).bind
                                              fun (r7 : ByteArray) =>
                                              bif decide (1 + r7.size ≤ 9223372036854775807) then
                                                bif
                                                    decide
                                                      ((p5.snd.buf.length +
                                                            (strU (bL [32] ++ r7)).length) *
                                                          1 ≤
                                                        140737488355328) then
                                                  (some (p5.snd.buf ++ strU (bL [32] ++ r7))).bind
                                                    fun (r8 : List Int) =>
                                                    some
                                                      (Sum.inl
                                                        (IntKind.i64.wrap (p5.fst + (1 : Int)), Builder.mk false r8))
                                                else none
                                              else none
                                      else none
                                    else some (Sum.inr (Sum.inl (Builder.mk false p5.snd.buf))))
                                  ((0 : Int), Builder.mk false r4)).bind
                              fun (r9 : Builder ⊕ ByteArray × Int × Builder) =>
                              Sum.elim
                                (fun (p10 : Builder) =>
                                  bif decide ((p10.buf.length + 1) * 1 ≤ 140737488355328) then
                                    (some (p10.buf ++ [(10 : Int)])).bind fun (r11 : List Int) =>
                                      some (Sum.inl (IntKind.i64.wrap (p1.fst + (1 : Int)), Builder.mk false r11))
                                  else none)
                                (fun (p12 : ByteArray × Int × Builder) =>
                                  some (Sum.inr (Sum.inr (p12.fst, p12.snd.fst, Builder.mk false p12.snd.snd.buf))))
                                r9
                        else none
                      else none
            else none
          else some (Sum.inr (Sum.inl (Builder.mk false p1.snd.buf))))
        ((0 : Int), z_Builder)).bind
    fun (r13 : Builder ⊕ ByteArray × Int × Builder) =>
    Sum.elim
      (fun (p14 : Builder) =>
        bif decide ((↑p14.buf.length : Int) = (↑p14.buf.length : Int)) then some (byU p14.buf, (0 : Int))
        else none)
      (fun (p15 : ByteArray × Int × Builder) => some (p15.fst, p15.snd.fst)) r13
theorem d_script_Print (N : Nat) : DenF Tryd.prog 16 ⟨[.l_Event], [.t_str, .t_i64], [[none], [none]], script_Print N⟩ :=
  den_of (N := N) (gam := [(26, ⟨[.t_i64, .t_i64], [.t_bool], [[none]], script_fits N⟩), (27, ⟨[.t_i64], [.t_bool], [[none]], script_inRange N⟩), (22, ⟨[.t_i64], [.t_str], [[none]], strconv_Itoa N⟩)]) (pan := []) (txt := [(23, Tryd.f23), (24, Tryd.f24)]) (hints := [(16, [([0, 1, 0, 1, 1], ⟨[4, 9, 10], [.reg 11 .t_i64 [none], .vars 4 .t_Builder [none, some 5] [0, 1]], [(.ex 0, [.vars 4 .t_Builder [none, some 5] [0, 1]]), (.ret, [.reg 2 .t_str [none], .reg 3 .t_i64 [none], .vars 4 .t_Builder [none, some 5] [0, 1]])], []⟩), ([0, 0, 1, 0, 0, 1, 1, 0, 0, 1, 0, 1, 1], ⟨[4, 6, 9, 10, 11], [], [(.nrm, [.reg 22 .t_bool [none]])], []⟩), ([0, 1, 0, 1, 1, 1, 1, 0, 0, 1, 1, 0, 0, 1, 0, 1, 1], ⟨[4, 9, 10, 11, 37, 38], [.reg 39 .t_i64 [none], .vars 4 .t_Builder [none, some 5] [0, 1]], [(.ex 2, [.vars 4 .t_Builder [none, some 5] [0, 1]]), (.ret, [.reg 2 .t_str [none], .reg 3 .t_i64 [none], .vars 4 .t_Builder [none, some 5] [0, 1]])], []⟩)])]) pok (.cons (d_script_fits N) (.cons (d_script_inRange N) (.cons (d_strconv_Itoa N) .nil))) .nil (.cons Tryd.func23 (.cons Tryd.func24 .nil)) Tryd.func16 (by kernel_rfl) (by kernel_rfl)

def r60_Word (N : Nat) (x0 : Int) : Option ByteArray :=
 
  (r60_words N).bind fun (r1 : List ByteArray) =>
    (bif decide (x0 < (1 : Int)) then some true else some (decide (x0 ≥ (↑r1.length : Int)))).bind fun (r2 : Bool) =>
      bif r2 then some (bL [])
      else
        bif decide ((0 : Int) ≤ x0) && decide (x0 < (↑r1.length : Int)) then some (r1.getD x0.toNat (bL [])) else none
theorem d_r60_Word (N : Nat) : DenF Tryd.prog 28 ⟨[.t_i64], [.t_str], [[none]], r60_Word N⟩ :=
  den_of (N := N) (gam := [(40, ⟨[], [.l_str], [[some 9]], r60_words N⟩)]) (pan := []) (txt := []) (hints := [(28, [([0, 0, 1, 1], ⟨[0, 3], [], [(.nrm, [.reg 12 .t_bool [none]])], []⟩)])]) pok (.cons (d_r60_words N) .nil) .nil .nil Tryd.func28 (by kernel_rfl) (by kernel_rfl)

def r60_Print (N : Nat) (x0 : List Event) : Option (ByteArray × Int) :=
 
  (whileF N
        (fun (p1 : ByteArray × Int) =>
          bif decide (p1.snd < (↑x0.length : Int)) then
            bif decide ((0 : Int) ≤ p1.snd) && decide (p1.snd < (↑x0.length : Int)) then
              (r60_Word N (x0.getD (Int.toNat p1.snd) z_Event).Kind).bind fun (r2 : ByteArray) =>
                bif r2.toList == [] then some (Sum.inr (Sum.inr (bL [], (18 : Int))))
                else
                  bif decide ((0 : Int) ≤ p1.snd) && decide (p1.snd < (↑x0.length : Int)) then
                    bif decide ((0 : Int) ≤ p1.snd) && decide (p1.snd < (↑x0.length : Int)) then
                      (r60_fits N (x0.getD (Int.toNat p1.snd) z_Event).Kind
                            (↑(x0.getD (Int.toNat p1.snd) z_Event).Args.length : Int)).bind
                        fun (r3 : Bool) =>
                        bif !r3 then some (Sum.inr (Sum.inr (bL [], (3 : Int))))
                        else
                          bif decide ((0 : Int) ≤ p1.snd) && decide (p1.snd < (↑x0.length : Int)) then
                            (r60_Word N (x0.getD (Int.toNat p1.snd) z_Event).Kind).bind fun (r4 : ByteArray) =>
                              bif decide (ByteArray.size p1.fst + r4.size ≤ 9223372036854775807) then
                                (whileF N
                                      (fun (p5 : ByteArray × Int) =>
                                        bif decide ((0 : Int) ≤ p1.snd) && decide (p1.snd < (↑x0.length : Int)) then
                                          bif
                                              decide
                                                (p5.snd <
                                                  (↑(x0.getD (Int.toNat p1.snd) z_Event).Args.length : Int)) then
                                            bif decide ((0 : Int) ≤ p1.snd) && decide (p1.snd < (↑x0.length : Int)) then
                                              bif
                                                  decide ((0 : Int) ≤ p5.snd) &&
                                                    decide
                                                      (p5.snd <
                                                        (↑(x0.getD (Int.toNat p1.snd) z_Event).Args.length : Int)) then
                                                (bif
                                                        decide
                                                          ((x0.getD (Int.toNat p1.snd) z_Event).Args.getD
                                                              (Int.toNat p5.snd) (0 : Int) <
                                                            (-1125899906842624 : Int)) then
                                                      some true
                                                    else
                                                      some
                                                        (decide
                                                          ((x0.getD (Int.toNat p1.snd) z_Event).Args.getD
                                                              (Int.toNat p5.snd) (0 : Int) >
                                                            (1125899906842624 : Int)))).bind
                                                  fun (r6 : Bool) =>
                                                  bif r6 then some (Sum.inr (Sum.inr (bL [], (2 : Int))))
                                                  else
                                                    bif
                                                        decide
                                                          (ByteArray.size p5.fst + 1 ≤
                                                            9223372036854775807) then
                                                      (r60_Number N
                                                            ((x0.getD (Int.toNat p1.snd) z_Event).Args.getD
                                                              (Int.toNat p5.snd) (0 : Int))).bind
                                                        fun (r7 : ByteArray) =>
                                                        bif
                                                            decide
                                                              ((p5.fst ++ bL [32]).size + r7.size ≤
                                                                9223372036854775807) then
                                                          some
                                                            (Sum.inl
                                                              (p5.fst ++ bL [32] ++ r7,
                                                                IntKind.i64.wrap (p5.snd + (1 : Int))))
                                                        else none
                                                    else none
                                              else none
                                            else none
                                          else some (Sum.inr (Sum.inl p5.fst))
                                        else none)
                                      (p1.fst ++ r4, (0 : Int))).bind
                                  fun (r8 : ByteArray ⊕ ByteArray × Int) =>
                                  Sum.elim
                                    (fun (p9 : ByteArray) =>
                                      bif decide (p9.size + 1 ≤ 9223372036854775807) then
                                        some (Sum.inl (p9 ++ bL [10], IntKind.i64.wrap (p1.snd + (1 : Int))))
                                      else none)
                                    (fun (p10 : ByteArray × Int) => some (Sum.inr (Sum.inr p10))) r8
                              else none
                          else none
                    else none
                  else none
            else none
          else some (Sum.inr (Sum.inl p1.fst)))
        (bL [], (0 : Int))).bind
    fun (r11 : ByteArray ⊕ ByteArray × Int) =>
    Sum.elim (fun (p12 : ByteArray) => some (p12, (0 : Int))) (fun (p13 : ByteArray × Int) => some p13) r11
theorem d_r60_Print (N : Nat) : DenF Tryd.prog 17 ⟨[.l_Event], [.t_str, .t_i64], [[none], [none]], r60_Print N⟩ :=
  den_of (N := N) (gam := [(28, ⟨[.t_i64], [.t_str], [[none]], r60_Word N⟩), (29, ⟨[.t_i64, .t_i64], [.t_bool], [[none]], r60_fits N⟩), (25, ⟨[.t_i64], [.t_str], [[none]], r60_Number N⟩)]) (pan := []) (txt := []) (hints := [(17, [([0, 1, 0, 1, 1], ⟨[0], [.reg 4 .t_str [none], .reg 5 .t_i64 [none]], [(.ex 0, [.reg 4 .t_str [none]]), (.ret, [.reg 2 .t_str [none], .reg 3 .t_i64 [none]])], []⟩), ([0, 1, 0, 1, 1, 1, 0, 0, 1, 0, 0, 1, 0, 1, 1], ⟨[0, 5], [.reg 4 .t_str [none], .reg 6 .t_i64 [none]], [(.ex 2, [.reg 4 .t_str [none]]), (.ret, [.reg 2 .t_str [none], .reg 3 .t_i64 [none]])], []⟩), ([0, 0, 1, 0, 0, 1, 0, 0, 1, 0, 1, 1, 1, 0, 0, 1, 0, 0, 1, 0, 1, 1], ⟨[0, 4, 5, 6, 7], [], [(.nrm, [.reg 65 .t_bool [none]])], []⟩)])]) pok (.cons (d_r60_Word N) (.cons (d_r60_fits N) (.cons (d_r60_Number N) .nil))) .nil .nil Tryd.func17 (by kernel_rfl) (by kernel_rfl)

def l60_ScriptPrints (N : Nat) (x0 : List Event) : Option Bool :=
 
  (l60_alive N).bind fun (r1 : Bool) =>
    bif !r1 then some false
    else
      (l60_small N x0).bind fun (r2 : Bool) =>
        bif !r2 then some true
        else
          (script_Print N x0).bind fun (r3 : ByteArray × Int) =>
            (r60_Print N x0).bind fun (r4 : ByteArray × Int) =>
              (bif ByteArray.toList r3.fst == ByteArray.toList r4.fst then some (r3.snd == r4.snd) else some false).bind
                fun (r5 : Bool) => some r5
theorem d_l60_ScriptPrints (N : Nat) : DenF Tryd.prog 6 ⟨[.l_Event], [.t_bool], [[none]], l60_ScriptPrints N⟩ :=
  den_of (N := N) (gam := [(9, ⟨[], [.t_bool], [[none]], l60_alive N⟩), (15, ⟨[.l_Event], [.t_bool], [[none]], l60_small N⟩), (16, ⟨[.l_Event], [.t_str, .t_i64], [[none], [none]], script_Print N⟩), (17, ⟨[.l_Event], [.t_str, .t_i64], [[none], [none]], r60_Print N⟩)]) (pan := []) (txt := []) (hints := [(6, [([0, 1, 1, 1, 1, 1], ⟨[], [], [(.nrm, [.reg 2 .t_bool [none]])], []⟩)])]) pok (.cons (d_l60_alive N) (.cons (d_l60_small N) (.cons (d_script_Print N) (.cons (d_r60_Print N) .nil)))) .nil .nil Tryd.func6 (by kernel_rfl) (by kernel_rfl)

def l60_ScriptBack (N : Nat) (x0 : List Event) : Option Bool :=
 
  (l60_alive N).bind fun (r1 : Bool) =>
    bif !r1 then some false
    else
      (l60_small N x0).bind fun (r2 : Bool) =>
        bif !r2 then some true
        else
          (script_Print N x0).bind fun (r3 : ByteArray × Int) =>
            bif r3.snd != (0 : Int) then some (ByteArray.toList r3.fst == [])
            else
              (script_Parse N r3.fst).bind fun (r4 : List Event × Int × Int) =>
                bif decide ((↑(ByteArray.size r3.fst) : Int) > (20000 : Int)) then
                  (bif r4.snd.fst == (0 : Int) then
                        bif r4.snd.snd == (4 : Int) then some ((↑(List.length r4.fst) : Int) == (0 : Int))
                        else some false
                      else some false).bind
                    fun (r5 : Bool) => some r5
                else
                  bif decide ((↑x0.length : Int) > (400 : Int)) then
                    (bif r4.snd.fst == (401 : Int) then
                          bif r4.snd.snd == (4 : Int) then some ((↑(List.length r4.fst) : Int) == (0 : Int))
                          else some false
                        else some false).bind
                      fun (r6 : Bool) => some r6
                  else
                    (bif r4.snd.fst == (0 : Int) then
                          bif r4.snd.snd == (0 : Int) then (r60_Same N x0 r4.fst).bind fun (r7 : Bool) => some r7
                          else some false
                        else some false).bind
                      fun (r8 : Bool) => some r8
theorem d_l60_ScriptBack (N : Nat) : DenF Tryd.prog 7 ⟨[.l_Event], [.t_bool], [[none]], l60_ScriptBack N⟩ :=
  den_of (N := N) (gam := [(9, ⟨[], [.t_bool], [[none]], l60_alive N⟩), (15, ⟨[.l_Event], [.t_bool], [[none]], l60_small N⟩), (16, ⟨[.l_Event], [.t_str, .t_i64], [[none], [none]], script_Print N⟩), (10, ⟨[.t_str], [.l_Event, .t_i64, .t_i64], [[none], [none], [none]], script_Parse N⟩), (12, ⟨[.l_Event, .l_Event], [.t_bool], [[none]], r60_Same N⟩)]) (pan := []) (txt := []) (hints := [(7, [([0, 0, 1, 0, 1, 1, 1, 1, 1, 1], ⟨[], [], [(.nrm, [.reg 2 .t_bool [none]])], []⟩), ([0, 0, 1, 0, 1, 1, 1, 1, 1, 1, 1], ⟨[], [], [(.nrm, [.reg 2 .t_bool [none]])], []⟩), ([0, 1, 1, 1, 1, 1, 1, 1, 1], ⟨[], [], [(.nrm, [.reg 2 .t_bool [none]])], []⟩)])]) pok (.cons (d_l60_alive N) (.cons (d_l60_small N) (.cons (d_script_Print N) (.cons (d_script_Parse N) (.cons (d_r60_Same N) .nil))))) .nil .nil Tryd.func7 (by kernel_rfl) (by kernel_rfl)

def l60_ScriptLines (N : Nat) (x0 : ByteArray) : Option Bool :=
 
  (l60_alive N).bind fun (r1 : Bool) =>
    bif !r1 then some false
    else
      bif decide ((↑x0.size : Int) > (19000 : Int)) then some true
      else
        (script_Parse N x0).bind fun (r2 : List Event × Int × Int) =>
          bif decide (1 + x0.size ≤ 9223372036854775807) then
            (script_Parse N (bL [10] ++ x0)).bind fun (r3 : List Event × Int × Int) =>
              bif decide (6 + x0.size ≤ 9223372036854775807) then
                (script_Parse N
                      (bL [35, 116, 105, 99, 107, 10] ++ x0)).bind
                  fun (r4 : List Event × Int × Int) =>
                  (bif r2.snd.snd != r3.snd.snd then some true
                      else
                        bif r2.snd.snd != r4.snd.snd then some true
                        else
                          (r60_Same N r2.fst r3.fst).bind fun (r5 : Bool) =>
                            bif !r5 then some true
                            else (r60_Same N r2.fst r4.fst).bind fun (r6 : Bool) => some !r6).bind
                    fun (r7 : Bool) =>
                    bif r7 then some false
                    else
                      bif r2.snd.snd != (0 : Int) then
                        (bif (↑(List.length r2.fst) : Int) == (0 : Int) then
                              bif r3.snd.fst == IntKind.i64.wrap (r2.snd.fst + (1 : Int)) then
                                some (r4.snd.fst == IntKind.i64.wrap (r2.snd.fst + (1 : Int)))
                              else some false
                            else some false).bind
                          fun (r8 : Bool) => some r8
                      else
                        (script_Print N r2.fst).bind fun (r9 : ByteArray × Int) =>
                          (whileF N
                                (fun (p10 : Int × Int) =>
                                  bif decide (p10.snd < (↑(ByteArray.size r9.fst) : Int)) then
                                    bif
                                        decide ((0 : Int) ≤ p10.snd) &&
                                          decide (p10.snd < (↑(ByteArray.size r9.fst) : Int)) then
                                      (bif byteAt r9.fst p10.snd == (10 : Int) then
                                            some (IntKind.i64.wrap (p10.fst + (1 : Int)))
                                          else some p10.fst).bind
                                        fun (r11 : Int) => some (Sum.inl (r11, IntKind.i64.wrap (p10.snd + (1 : Int))))
                                    else none
                                  else some (Sum.inr p10.fst))
                                ((0 : Int), (0 : Int))).bind
                            fun (r12 : Int) =>
                            (script_Parse N r9.fst).bind fun (r13 : List Event × Int × Int) =>
                              (bif r2.snd.fst == (0 : Int) then
                                    bif r3.snd.fst == (0 : Int) then
                                      bif r4.snd.fst == (0 : Int) then
                                        bif r9.snd == (0 : Int) then
                                          bif r12 == (↑(List.length r2.fst) : Int) then
                                            bif r13.snd.snd == (0 : Int) then
                                              (r60_Same N r13.fst r2.fst).bind fun (r14 : Bool) => some r14
                                            else some false
                                          else some false
                                        else some false
                                      else some false
                                    else some false
                                  else some false).bind
                                fun (r15 : Bool) => some r15
              else none
          else none
theorem d_l60_ScriptLines (N : Nat) : DenF Tryd.prog 8 ⟨[.t_str], [.t_bool], [[none]], l60_ScriptLines N⟩ :=
  den_of (N := N) (gam := [(9, ⟨[], [.t_bool], [[none]], l60_alive N⟩), (10, ⟨[.t_str], [.l_Event, .t_i64, .t_i64], [[none], [none], [none]], script_Parse N⟩), (12, ⟨[.l_Event, .l_Event], [.t_bool], [[none]], r60_Same N⟩), (16, ⟨[.l_Event], [.t_str, .t_i64], [[none], [none]], script_Print N⟩)]) (pan := []) (txt := []) (hints := [(8, [([0, 0, 1, 1, 1, 1, 1, 1], ⟨[3, 4, 5, 7, 10], [], [(.nrm, [.reg 63 .t_bool [none]])], []⟩), ([0, 0, 1, 0, 1, 1, 1, 1, 1, 1, 1], ⟨[], [], [(.nrm, [.reg 2 .t_bool [none]])], []⟩), ([0, 1, 0, 1, 1, 1, 1, 1, 1, 1, 1, 1, 1], ⟨[3, 4, 7, 10, 12, 13], [.reg 14 .t_i64 [none], .reg 15 .t_i64 [none]], [(.ex 0, [.reg 14 .t_i64 [none]])], []⟩), ([1, 0, 0, 1, 0, 0, 1, 0, 1, 1, 1, 1, 1, 1, 1, 1, 1, 1], ⟨[3, 4, 7, 10, 12, 13, 15], [], [(.nrm, [.reg 14 .t_i64 [none]])], []⟩), ([0, 1, 1, 1, 1, 1, 1, 1, 1, 1, 1, 1, 1], ⟨[], [], [(.nrm, [.reg 2 .t_bool [none]])], []⟩)])]) pok (.cons (d_l60_alive N) (.cons (d_script_Parse N) (.cons (d_r60_Same N) (.cons (d_script_Print N) .nil)))) .nil .nil Tryd.func8 (by kernel_rfl) (by kernel_rfl)
end Go.Proofs.YtibcoiabdnbdjaaDoor
