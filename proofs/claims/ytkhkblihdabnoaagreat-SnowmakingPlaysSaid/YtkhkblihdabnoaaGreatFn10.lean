/- Written by a program (gen.py, asm.py): what each function computes, as a plain function, and that its text computes it. No condition. -/
import Derived.Test.YtkhkblihdabnoaaGreatFn9
import Derived.Test.YtkhkblihdabnoaaGreatCmo
namespace Go.Proofs.YtkhkblihdabnoaaGreat
open Go.Cm Go.Proofs
set_option linter.unusedVariables false
set_option maxRecDepth 100000

def r44_Balanced (N : Nat) (x0 x1 : SnowSystem) : Option Bool :=
 
  bif (↑x0.Packs.length : Int) != (↑x1.Packs.length : Int) then some false
  else
    (whileF N
          (fun (p2 : Int × Int) =>
            bif decide (p2.snd < (↑x0.Packs.length : Int)) then
              (bif decide ((0 : Int) ≤ p2.snd) && decide (p2.snd < (↑x0.Packs.length : Int)) then
                    bif decide ((0 : Int) ≤ p2.snd) && decide (p2.snd < (↑x1.Packs.length : Int)) then
                      bif
                          (x0.Packs.getD (Int.toNat p2.snd) z_RunPack).Run !=
                            (x1.Packs.getD (Int.toNat p2.snd) z_RunPack).Run then
                        some true
                      else
                        bif decide ((0 : Int) ≤ p2.snd) && decide (p2.snd < (↑x0.Packs.length : Int)) then
                          bif decide ((0 : Int) ≤ p2.snd) && decide (p2.snd < (↑x1.Packs.length : Int)) then
                            some
                              ((x0.Packs.getD (Int.toNat p2.snd) z_RunPack).Area !=
                                (x1.Packs.getD (Int.toNat p2.snd) z_RunPack).Area)
                          else none
                        else none
                    else none
                  else none).bind
                fun (r3 : Bool) =>
                bif r3 then some (Sum.inr (Sum.inr false))
                else
                  bif decide ((0 : Int) ≤ p2.snd) && decide (p2.snd < (↑x1.Packs.length : Int)) then
                    bif decide ((0 : Int) ≤ p2.snd) && decide (p2.snd < (↑x0.Packs.length : Int)) then
                      bif decide ((0 : Int) ≤ p2.snd) && decide (p2.snd < (↑x0.Packs.length : Int)) then
                        some
                          (Sum.inl
                            (IntKind.i64.wrap
                                (p2.fst +
                                  IntKind.i64.wrap
                                    (IntKind.i64.wrap
                                        ((x1.Packs.getD (Int.toNat p2.snd) z_RunPack).Pack.Machine -
                                          (x0.Packs.getD (Int.toNat p2.snd) z_RunPack).Pack.Machine) *
                                      (x0.Packs.getD (Int.toNat p2.snd) z_RunPack).Area)),
                              IntKind.i64.wrap (p2.snd + (1 : Int))))
                      else none
                    else none
                  else none
            else some (Sum.inr (Sum.inl p2.fst)))
          ((0 : Int), (0 : Int))).bind
      fun (r4 : Int ⊕ Bool) =>
      Sum.elim
        (fun (p5 : Int) =>
          (r39_Total N x1.Ponds).bind fun (r6 : Int) =>
            (r39_Total N x0.Ponds).bind fun (r7 : Int) =>
              bif
                  IntKind.i64.wrap (r6 - r7) !=
                    IntKind.i64.wrap
                      (IntKind.i64.wrap (x1.Inflow - x0.Inflow) - IntKind.i64.wrap (x1.Water - x0.Water)) then
                some false
              else
                some
                  (IntKind.i64.wrap (x1.Water - x0.Water) ==
                    IntKind.i64.wrap (IntKind.i64.wrap (x1.Lost - x0.Lost) + p5)))
        (fun (p8 : Bool) => some p8) r4
theorem d_r44_Balanced (N : Nat) : DenF Tryz.prog 20 ⟨[.t_SnowSystem, .t_SnowSystem], [.t_bool], [[none]], r44_Balanced N⟩ :=
  den_of (N := N) (gam := [(59, ⟨[.l_Pond], [.t_i64], [[none]], r39_Total N⟩)]) (txt := []) (hints := [(20, [([0, 1, 0, 1, 1, 1], ⟨[2, 3], [.reg 5 .t_i64 [none], .reg 6 .t_i64 [none]], [(.ex 0, [.reg 5 .t_i64 [none]]), (.ret, [.reg 4 .t_bool [none]])], []⟩), ([0, 0, 0, 0, 1, 0, 0, 1, 0, 1, 1, 1], ⟨[2, 3, 5, 6], [], [(.nrm, [.reg 48 .t_bool [none]])], []⟩)])]) mixed (.cons (d_r39_Total N) .nil) .nil Tryz.func20 (by kernel_rfl) (by kernel_rfl)

def l44_SnowmakingBalances (N : Nat) (x0 x1 : SnowSystem) : Option Bool :=
 
  (l44_alive N).bind fun (r2 : Bool) =>
    bif !r2 then some false
    else
      ((l44_right N x0).bind fun (r3 : Bool) =>
            bif !r3 then some true else (l44_right N x1).bind fun (r4 : Bool) => some !r4).bind
        fun (r5 : Bool) =>
        bif r5 then some true
        else
          (snowmaking_Balanced N x0 x1).bind fun (r6 : Bool) =>
            (r44_Balanced N x0 x1).bind fun (r7 : Bool) => some (r6 == r7)
theorem d_l44_SnowmakingBalances (N : Nat) : DenF Tryz.prog 5 ⟨[.t_SnowSystem, .t_SnowSystem], [.t_bool], [[none]], l44_SnowmakingBalances N⟩ :=
  den_of (N := N) (gam := [(6, ⟨[], [.t_bool], [[none]], l44_alive N⟩), (14, ⟨[.t_SnowSystem], [.t_bool], [[none]], l44_right N⟩), (19, ⟨[.t_SnowSystem, .t_SnowSystem], [.t_bool], [[none]], snowmaking_Balanced N⟩), (20, ⟨[.t_SnowSystem, .t_SnowSystem], [.t_bool], [[none]], r44_Balanced N⟩)]) (txt := []) (hints := [(5, [([0, 0, 1, 1], ⟨[2, 3], [], [(.nrm, [.reg 14 .t_bool [none]])], []⟩)])]) mixed (.cons (d_l44_alive N) (.cons (d_l44_right N) (.cons (d_snowmaking_Balanced N) (.cons (d_r44_Balanced N) .nil)))) .nil Tryz.func5 (by kernel_rfl) (by kernel_rfl)
end Go.Proofs.YtkhkblihdabnoaaGreat
