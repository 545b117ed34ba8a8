/- Written by a program (gen.py, asm.py): what each function computes, as a plain function, and that its text computes it. No condition. -/
import Derived.Test.YtkhkblihdabnoaaGreatSg
import Derived.Test.YtkhkblihdabnoaaGreatCmo
namespace Go.Proofs.YtkhkblihdabnoaaGreat
open Go.Cm Go.Proofs
set_option linter.unusedVariables false
set_option maxRecDepth 100000

def l44_example (N : Nat) : Option SnowSystem :=
 
  (some [Pond.mk (1 : Int) (10000 : Int) (1000 : Int) (20000 : Int) (3600 : Int)]).bind fun (r0 : List Pond) =>
    (some [Pump.mk (1 : Int) (500 : Int) (2000 : Int)]).bind fun (r1 : List Pump) =>
      (some [Pipe.mk (1 : Int) (0 : Int) (1 : Int) (1000 : Int) (200 : Int)]).bind fun (r2 : List Pipe) =>
        (some [Point.mk (-50 : Int) (100 : Int), z_Point]).bind fun (r3 : List Point) =>
          (some [GunKind.mk (1 : Int) r3 (500 : Int) (3000 : Int)]).bind fun (r4 : List GunKind) =>
            (some [Gun.mk (1 : Int) (1 : Int) (7 : Int) (1 : Int) (0 : Int) (0 : Int) (0 : Int) (0 : Int)]).bind
              fun (r5 : List Gun) =>
              (some [RunPack.mk (7 : Int) (10 : Int) (Pack.mk (0 : Int) (0 : Int) (450 : Int))]).bind
                fun (r6 : List RunPack) =>
                some
                  (SnowSystem.mk r0 r1 r2 r4 r5 r6 (4000 : Int) (5000 : Int) (0 : Int) (0 : Int) (0 : Int) (0 : Int)
                    (0 : Int))
theorem d_l44_example (N : Nat) : DenF Tryz.prog 21 ⟨[], [.t_SnowSystem], [[some 49, some 95, some 68, some 56, some 63, some 53, none, none, none, none, none, none, none]], l44_example N⟩ :=
  den_of (N := N) (gam := []) (txt := []) (hints := []) mixed .nil .nil Tryz.func21 (by kernel_rfl) (by kernel_rfl)

def gun_moment_order (N : Nat) (x0 : moment) (x1 : Gun) : Option Bool :=
 
  (bif decide (x0.t ≥ x1.Since) then some (decide (x0.t ≤ (20000000 : Int))) else some false).bind fun (r2 : Bool) =>
    some r2
theorem d_gun_moment_order (N : Nat) : DenF Tryz.prog 145 ⟨[.t_moment, .t_Gun], [.t_bool], [[none]], gun_moment_order N⟩ :=
  den_of (N := N) (gam := []) (txt := []) (hints := [(145, [([0, 1], ⟨[], [], [(.nrm, [.reg 4 .t_bool [none]])], []⟩)])]) mixed .nil .nil Tryz.func145 (by kernel_rfl) (by kernel_rfl)

def gun_Stop (N : Nat) (x0 : Gun) (x1 : Int) : Option (Gun × Int) :=
 
  bif x0.State != (1 : Int) then some (z_Gun, (10 : Int))
  else
    (gun_moment_order N (moment.mk x1) x0).bind fun (r2 : Bool) =>
      bif !r2 then some (z_Gun, (11 : Int))
      else
        bif decide (x1 < IntKind.i64.wrap (x0.Since + x0.On)) then some (z_Gun, (13 : Int))
        else some (Gun.mk x0.ID x0.Node x0.Run x0.Kind (0 : Int) x1 x0.On x0.Off, (0 : Int))
theorem d_gun_Stop (N : Nat) : DenF Tryz.prog 62 ⟨[.t_Gun, .t_i64], [.t_Gun, .t_i64], [[none, none, none, none, none, none, none, none], [none]], gun_Stop N⟩ :=
  den_of (N := N) (gam := [(145, ⟨[.t_moment, .t_Gun], [.t_bool], [[none]], gun_moment_order N⟩)]) (txt := [(102, Tryz.f102), (129, Tryz.f129), (130, Tryz.f130), (131, Tryz.f131), (132, Tryz.f132), (101, Tryz.f101)]) (hints := []) mixed (.cons (d_gun_moment_order N) .nil) (.cons Tryz.func102 (.cons Tryz.func129 (.cons Tryz.func130 (.cons Tryz.func131 (.cons Tryz.func132 (.cons Tryz.func101 .nil)))))) Tryz.func62 (by kernel_rfl) (by kernel_rfl)

def gun_Start (N : Nat) (x0 : Gun) (x1 : Int) : Option (Gun × Int) :=
 
  bif x0.State != (0 : Int) then some (z_Gun, (10 : Int))
  else
    (gun_moment_order N (moment.mk x1) x0).bind fun (r2 : Bool) =>
      bif !r2 then some (z_Gun, (11 : Int))
      else
        bif decide (x1 < IntKind.i64.wrap (x0.Since + x0.Off)) then some (z_Gun, (13 : Int))
        else some (Gun.mk x0.ID x0.Node x0.Run x0.Kind (1 : Int) x1 x0.On x0.Off, (0 : Int))
theorem d_gun_Start (N : Nat) : DenF Tryz.prog 63 ⟨[.t_Gun, .t_i64], [.t_Gun, .t_i64], [[none, none, none, none, none, none, none, none], [none]], gun_Start N⟩ :=
  den_of (N := N) (gam := [(145, ⟨[.t_moment, .t_Gun], [.t_bool], [[none]], gun_moment_order N⟩)]) (txt := [(102, Tryz.f102), (129, Tryz.f129), (130, Tryz.f130), (131, Tryz.f131), (132, Tryz.f132), (101, Tryz.f101)]) (hints := []) mixed (.cons (d_gun_moment_order N) .nil) (.cons Tryz.func102 (.cons Tryz.func129 (.cons Tryz.func130 (.cons Tryz.func131 (.cons Tryz.func132 (.cons Tryz.func101 .nil)))))) Tryz.func63 (by kernel_rfl) (by kernel_rfl)

def sl_Clone_Pond (N : Nat) (l : List Pond) : Option (List Pond) := bif decide ((0 + l.length) * 40 ≤ 140737488355328) then some l else none
theorem ca_sl_Clone_Pond (N : Nat) (l : List Pond) (b : Bool) : ev (⟨Tryz.prog, N, lkF []⟩ : Ctx) (⟨lkT [], lkH []⟩ : Env2) 100 false 103 Tryz.f103.ntmps [] ((clonePat (Tryz.f103.body.getD .skip)).getD (.skip, 0, default, default, .skip, .skip)).2.2.2.2.1 (Ress [TI.l_Pond]) ⟨(4, .lit (.bool b)) :: (3, .sl ⟨TI.t_Pond, l⟩) :: [(2, .row 0), (0, .sl ⟨TI.t_Pond, l⟩)], [], [(0, .row false 49 ⟨TI.t_Pond, []⟩)], [], 1⟩ (seqK (fun s => ev (⟨Tryz.prog, N, lkF []⟩ : Ctx) (⟨lkT [], lkH []⟩ : Env2) 100 false 103 Tryz.f103.ntmps [] ((clonePat (Tryz.f103.body.getD .skip)).getD (.skip, 0, default, default, .skip, .skip)).2.2.2.2.2 (Ress [TI.l_Pond]) s (finK Tryz.prog [TI.l_Pond] [[some 49]] Tryz.f103.results.toList)) (finK Tryz.prog [TI.l_Pond] [[some 49]] Tryz.f103.results.toList)) = cond b (some []) (sl_Clone_Pond N l) := by kernel_rfl
theorem d_sl_Clone_Pond (N : Nat) : DenF Tryz.prog 103 ⟨[TI.l_Pond], [TI.l_Pond], [[some 49]], sl_Clone_Pond N⟩ := by
  refine clone_den (cx := (⟨Tryz.prog, N, lkF []⟩ : Ctx)) (e2 := (⟨lkT [], lkH []⟩ : Env2)) (c := (Tryz.f103.body.getD .skip)) (R0 := ((clonePat (Tryz.f103.body.getD .skip)).getD (.skip, 0, default, default, .skip, .skip)).1) (id := ((clonePat (Tryz.f103.body.getD .skip)).getD (.skip, 0, default, default, .skip, .skip)).2.1) (o1 := ((clonePat (Tryz.f103.body.getD .skip)).getD (.skip, 0, default, default, .skip, .skip)).2.2.1) (o2 := ((clonePat (Tryz.f103.body.getD .skip)).getD (.skip, 0, default, default, .skip, .skip)).2.2.2.1) (C := ((clonePat (Tryz.f103.body.getD .skip)).getD (.skip, 0, default, default, .skip, .skip)).2.2.2.2.1) (T := ((clonePat (Tryz.f103.body.getD .skip)).getD (.skip, 0, default, default, .skip, .skip)).2.2.2.2.2) (t := 22) (t' := 22) (e := 49) mixed (fun f F h => by cases h) (fun f F h => by cases h) Tryz.func103 (by kernel_rfl) (by kernel_rfl) (by kernel_rfl) (by kernel_rfl) (by kernel_rfl) (by kernel_rfl) (by kernel_rfl) (by kernel_rfl) (by kernel_rfl) (by kernel_rfl) (Nat.le_of_ble_eq_true (by kernel_rfl)) rfl (fun q => ⟨[(2, .row 0), (0, .sl q)], [], [(0, .row false 49 ⟨TI.t_Pond, []⟩)], [], 1⟩) (fun cs h => ?_) (fun q => by kernel_rfl) (fun q => rfl) (fun x q b r hx hF hb => ?_)
  · obtain ⟨t0, ts, rfl, h0, h⟩ := fits_cons h
    obtain rfl := fits_nil h
    refine ⟨⟨TI.t_Pond, gl TI.t_Pond t0⟩, by rw [fit_sl h0], ?_⟩
    exact Nat.le_of_ble_eq_true rfl
  · injection hx with hx
    injection hx with hx
    subst hx
    rw [show _ = _ from ca_sl_Clone_Pond N x b]
    cases b with
    | false => exact hF
    | true =>
      have hx0 : x = [] := List.eq_nil_of_length_eq_zero (hb rfl)
      subst hx0
      exact hF

def sl_Clone_Pump (N : Nat) (l : List Pump) : Option (List Pump) := bif decide ((0 + l.length) * 24 ≤ 140737488355328) then some l else none
theorem ca_sl_Clone_Pump (N : Nat) (l : List Pump) (b : Bool) : ev (⟨Tryz.prog, N, lkF []⟩ : Ctx) (⟨lkT [], lkH []⟩ : Env2) 100 false 104 Tryz.f104.ntmps [] ((clonePat (Tryz.f104.body.getD .skip)).getD (.skip, 0, default, default, .skip, .skip)).2.2.2.2.1 (Ress [TI.l_Pump]) ⟨(4, .lit (.bool b)) :: (3, .sl ⟨TI.t_Pump, l⟩) :: [(2, .row 0), (0, .sl ⟨TI.t_Pump, l⟩)], [], [(0, .row false 95 ⟨TI.t_Pump, []⟩)], [], 1⟩ (seqK (fun s => ev (⟨Tryz.prog, N, lkF []⟩ : Ctx) (⟨lkT [], lkH []⟩ : Env2) 100 false 104 Tryz.f104.ntmps [] ((clonePat (Tryz.f104.body.getD .skip)).getD (.skip, 0, default, default, .skip, .skip)).2.2.2.2.2 (Ress [TI.l_Pump]) s (finK Tryz.prog [TI.l_Pump] [[some 95]] Tryz.f104.results.toList)) (finK Tryz.prog [TI.l_Pump] [[some 95]] Tryz.f104.results.toList)) = cond b (some []) (sl_Clone_Pump N l) := by kernel_rfl
theorem d_sl_Clone_Pump (N : Nat) : DenF Tryz.prog 104 ⟨[TI.l_Pump], [TI.l_Pump], [[some 95]], sl_Clone_Pump N⟩ := by
  refine clone_den (cx := (⟨Tryz.prog, N, lkF []⟩ : Ctx)) (e2 := (⟨lkT [], lkH []⟩ : Env2)) (c := (Tryz.f104.body.getD .skip)) (R0 := ((clonePat (Tryz.f104.body.getD .skip)).getD (.skip, 0, default, default, .skip, .skip)).1) (id := ((clonePat (Tryz.f104.body.getD .skip)).getD (.skip, 0, default, default, .skip, .skip)).2.1) (o1 := ((clonePat (Tryz.f104.body.getD .skip)).getD (.skip, 0, default, default, .skip, .skip)).2.2.1) (o2 := ((clonePat (Tryz.f104.body.getD .skip)).getD (.skip, 0, default, default, .skip, .skip)).2.2.2.1) (C := ((clonePat (Tryz.f104.body.getD .skip)).getD (.skip, 0, default, default, .skip, .skip)).2.2.2.2.1) (T := ((clonePat (Tryz.f104.body.getD .skip)).getD (.skip, 0, default, default, .skip, .skip)).2.2.2.2.2) (t := 23) (t' := 23) (e := 95) mixed (fun f F h => by cases h) (fun f F h => by cases h) Tryz.func104 (by kernel_rfl) (by kernel_rfl) (by kernel_rfl) (by kernel_rfl) (by kernel_rfl) (by kernel_rfl) (by kernel_rfl) (by kernel_rfl) (by kernel_rfl) (by kernel_rfl) (Nat.le_of_ble_eq_true (by kernel_rfl)) rfl (fun q => ⟨[(2, .row 0), (0, .sl q)], [], [(0, .row false 95 ⟨TI.t_Pump, []⟩)], [], 1⟩) (fun cs h => ?_) (fun q => by kernel_rfl) (fun q => rfl) (fun x q b r hx hF hb => ?_)
  · obtain ⟨t0, ts, rfl, h0, h⟩ := fits_cons h
    obtain rfl := fits_nil h
    refine ⟨⟨TI.t_Pump, gl TI.t_Pump t0⟩, by rw [fit_sl h0], ?_⟩
    exact Nat.le_of_ble_eq_true rfl
  · injection hx with hx
    injection hx with hx
    subst hx
    rw [show _ = _ from ca_sl_Clone_Pump N x b]
    cases b with
    | false => exact hF
    | true =>
      have hx0 : x = [] := List.eq_nil_of_length_eq_zero (hb rfl)
      subst hx0
      exact hF

def sl_Clone_Pipe (N : Nat) (l : List Pipe) : Option (List Pipe) := bif decide ((0 + l.length) * 40 ≤ 140737488355328) then some l else none
theorem ca_sl_Clone_Pipe (N : Nat) (l : List Pipe) (b : Bool) : ev (⟨Tryz.prog, N, lkF []⟩ : Ctx) (⟨lkT [], lkH []⟩ : Env2) 100 false 105 Tryz.f105.ntmps [] ((clonePat (Tryz.f105.body.getD .skip)).getD (.skip, 0, default, default, .skip, .skip)).2.2.2.2.1 (Ress [TI.l_Pipe]) ⟨(4, .lit (.bool b)) :: (3, .sl ⟨TI.t_Pipe, l⟩) :: [(2, .row 0), (0, .sl ⟨TI.t_Pipe, l⟩)], [], [(0, .row false 68 ⟨TI.t_Pipe, []⟩)], [], 1⟩ (seqK (fun s => ev (⟨Tryz.prog, N, lkF []⟩ : Ctx) (⟨lkT [], lkH []⟩ : Env2) 100 false 105 Tryz.f105.ntmps [] ((clonePat (Tryz.f105.body.getD .skip)).getD (.skip, 0, default, default, .skip, .skip)).2.2.2.2.2 (Ress [TI.l_Pipe]) s (finK Tryz.prog [TI.l_Pipe] [[some 68]] Tryz.f105.results.toList)) (finK Tryz.prog [TI.l_Pipe] [[some 68]] Tryz.f105.results.toList)) = cond b (some []) (sl_Clone_Pipe N l) := by kernel_rfl
theorem d_sl_Clone_Pipe (N : Nat) : DenF Tryz.prog 105 ⟨[TI.l_Pipe], [TI.l_Pipe], [[some 68]], sl_Clone_Pipe N⟩ := by
  refine clone_den (cx := (⟨Tryz.prog, N, lkF []⟩ : Ctx)) (e2 := (⟨lkT [], lkH []⟩ : Env2)) (c := (Tryz.f105.body.getD .skip)) (R0 := ((clonePat (Tryz.f105.body.getD .skip)).getD (.skip, 0, default, default, .skip, .skip)).1) (id := ((clonePat (Tryz.f105.body.getD .skip)).getD (.skip, 0, default, default, .skip, .skip)).2.1) (o1 := ((clonePat (Tryz.f105.body.getD .skip)).getD (.skip, 0, default, default, .skip, .skip)).2.2.1) (o2 := ((clonePat (Tryz.f105.body.getD .skip)).getD (.skip, 0, default, default, .skip, .skip)).2.2.2.1) (C := ((clonePat (Tryz.f105.body.getD .skip)).getD (.skip, 0, default, default, .skip, .skip)).2.2.2.2.1) (T := ((clonePat (Tryz.f105.body.getD .skip)).getD (.skip, 0, default, default, .skip, .skip)).2.2.2.2.2) (t := 24) (t' := 24) (e := 68) mixed (fun f F h => by cases h) (fun f F h => by cases h) Tryz.func105 (by kernel_rfl) (by kernel_rfl) (by kernel_rfl) (by kernel_rfl) (by kernel_rfl) (by kernel_rfl) (by kernel_rfl) (by kernel_rfl) (by kernel_rfl) (by kernel_rfl) (Nat.le_of_ble_eq_true (by kernel_rfl)) rfl (fun q => ⟨[(2, .row 0), (0, .sl q)], [], [(0, .row false 68 ⟨TI.t_Pipe, []⟩)], [], 1⟩) (fun cs h => ?_) (fun q => by kernel_rfl) (fun q => rfl) (fun x q b r hx hF hb => ?_)
  · obtain ⟨t0, ts, rfl, h0, h⟩ := fits_cons h
    obtain rfl := fits_nil h
    refine ⟨⟨TI.t_Pipe, gl TI.t_Pipe t0⟩, by rw [fit_sl h0], ?_⟩
    exact Nat.le_of_ble_eq_true rfl
  · injection hx with hx
    injection hx with hx
    subst hx
    rw [show _ = _ from ca_sl_Clone_Pipe N x b]
    cases b with
    | false => exact hF
    | true =>
      have hx0 : x = [] := List.eq_nil_of_length_eq_zero (hb rfl)
      subst hx0
      exact hF

def sl_Clone_GunKind (N : Nat) (l : List GunKind) : Option (List GunKind) := bif decide ((0 + l.length) * 48 ≤ 140737488355328) then some l else none
theorem ca_sl_Clone_GunKind (N : Nat) (l : List GunKind) (b : Bool) : ev (⟨Tryz.prog, N, lkF []⟩ : Ctx) (⟨lkT [], lkH []⟩ : Env2) 100 false 106 Tryz.f106.ntmps [] ((clonePat (Tryz.f106.body.getD .skip)).getD (.skip, 0, default, default, .skip, .skip)).2.2.2.2.1 (Ress [TI.l_GunKind]) ⟨(4, .lit (.bool b)) :: (3, .sl ⟨TI.t_GunKind, l⟩) :: [(2, .row 0), (0, .sl ⟨TI.t_GunKind, l⟩)], [], [(0, .row false 56 ⟨TI.t_GunKind, []⟩)], [], 1⟩ (seqK (fun s => ev (⟨Tryz.prog, N, lkF []⟩ : Ctx) (⟨lkT [], lkH []⟩ : Env2) 100 false 106 Tryz.f106.ntmps [] ((clonePat (Tryz.f106.body.getD .skip)).getD (.skip, 0, default, default, .skip, .skip)).2.2.2.2.2 (Ress [TI.l_GunKind]) s (finK Tryz.prog [TI.l_GunKind] [[some 56]] Tryz.f106.results.toList)) (finK Tryz.prog [TI.l_GunKind] [[some 56]] Tryz.f106.results.toList)) = cond b (some []) (sl_Clone_GunKind N l) := by kernel_rfl
theorem d_sl_Clone_GunKind (N : Nat) : DenF Tryz.prog 106 ⟨[TI.l_GunKind], [TI.l_GunKind], [[some 56]], sl_Clone_GunKind N⟩ := by
  refine clone_den (cx := (⟨Tryz.prog, N, lkF []⟩ : Ctx)) (e2 := (⟨lkT [], lkH []⟩ : Env2)) (c := (Tryz.f106.body.getD .skip)) (R0 := ((clonePat (Tryz.f106.body.getD .skip)).getD (.skip, 0, default, default, .skip, .skip)).1) (id := ((clonePat (Tryz.f106.body.getD .skip)).getD (.skip, 0, default, default, .skip, .skip)).2.1) (o1 := ((clonePat (Tryz.f106.body.getD .skip)).getD (.skip, 0, default, default, .skip, .skip)).2.2.1) (o2 := ((clonePat (Tryz.f106.body.getD .skip)).getD (.skip, 0, default, default, .skip, .skip)).2.2.2.1) (C := ((clonePat (Tryz.f106.body.getD .skip)).getD (.skip, 0, default, default, .skip, .skip)).2.2.2.2.1) (T := ((clonePat (Tryz.f106.body.getD .skip)).getD (.skip, 0, default, default, .skip, .skip)).2.2.2.2.2) (t := 25) (t' := 25) (e := 56) mixed (fun f F h => by cases h) (fun f F h => by cases h) Tryz.func106 (by kernel_rfl) (by kernel_rfl) (by kernel_rfl) (by kernel_rfl) (by kernel_rfl) (by kernel_rfl) (by kernel_rfl) (by kernel_rfl) (by kernel_rfl) (by kernel_rfl) (Nat.le_of_ble_eq_true (by kernel_rfl)) rfl (fun q => ⟨[(2, .row 0), (0, .sl q)], [], [(0, .row false 56 ⟨TI.t_GunKind, []⟩)], [], 1⟩) (fun cs h => ?_) (fun q => by kernel_rfl) (fun q => rfl) (fun x q b r hx hF hb => ?_)
  · obtain ⟨t0, ts, rfl, h0, h⟩ := fits_cons h
    obtain rfl := fits_nil h
    refine ⟨⟨TI.t_GunKind, gl TI.t_GunKind t0⟩, by rw [fit_sl h0], ?_⟩
    exact Nat.le_of_ble_eq_true rfl
  · injection hx with hx
    injection hx with hx
    subst hx
    rw [show _ = _ from ca_sl_Clone_GunKind N x b]
    cases b with
    | false => exact hF
    | true =>
      have hx0 : x = [] := List.eq_nil_of_length_eq_zero (hb rfl)
      subst hx0
      exact hF

def sl_Clone_Point (N : Nat) (l : List Point) : Option (List Point) := bif decide ((0 + l.length) * 16 ≤ 140737488355328) then some l else none
theorem ca_sl_Clone_Point (N : Nat) (l : List Point) (b : Bool) : ev (⟨Tryz.prog, N, lkF []⟩ : Ctx) (⟨lkT [], lkH []⟩ : Env2) 100 false 107 Tryz.f107.ntmps [] ((clonePat (Tryz.f107.body.getD .skip)).getD (.skip, 0, default, default, .skip, .skip)).2.2.2.2.1 (Ress [TI.l_Point]) ⟨(4, .lit (.bool b)) :: (3, .sl ⟨TI.t_Point, l⟩) :: [(2, .row 0), (0, .sl ⟨TI.t_Point, l⟩)], [], [(0, .row false 99 ⟨TI.t_Point, []⟩)], [], 1⟩ (seqK (fun s => ev (⟨Tryz.prog, N, lkF []⟩ : Ctx) (⟨lkT [], lkH []⟩ : Env2) 100 false 107 Tryz.f107.ntmps [] ((clonePat (Tryz.f107.body.getD .skip)).getD (.skip, 0, default, default, .skip, .skip)).2.2.2.2.2 (Ress [TI.l_Point]) s (finK Tryz.prog [TI.l_Point] [[some 99]] Tryz.f107.results.toList)) (finK Tryz.prog [TI.l_Point] [[some 99]] Tryz.f107.results.toList)) = cond b (some []) (sl_Clone_Point N l) := by kernel_rfl
theorem d_sl_Clone_Point (N : Nat) : DenF Tryz.prog 107 ⟨[TI.l_Point], [TI.l_Point], [[some 99]], sl_Clone_Point N⟩ := by
  refine clone_den (cx := (⟨Tryz.prog, N, lkF []⟩ : Ctx)) (e2 := (⟨lkT [], lkH []⟩ : Env2)) (c := (Tryz.f107.body.getD .skip)) (R0 := ((clonePat (Tryz.f107.body.getD .skip)).getD (.skip, 0, default, default, .skip, .skip)).1) (id := ((clonePat (Tryz.f107.body.getD .skip)).getD (.skip, 0, default, default, .skip, .skip)).2.1) (o1 := ((clonePat (Tryz.f107.body.getD .skip)).getD (.skip, 0, default, default, .skip, .skip)).2.2.1) (o2 := ((clonePat (Tryz.f107.body.getD .skip)).getD (.skip, 0, default, default, .skip, .skip)).2.2.2.1) (C := ((clonePat (Tryz.f107.body.getD .skip)).getD (.skip, 0, default, default, .skip, .skip)).2.2.2.2.1) (T := ((clonePat (Tryz.f107.body.getD .skip)).getD (.skip, 0, default, default, .skip, .skip)).2.2.2.2.2) (t := 54) (t' := 54) (e := 99) mixed (fun f F h => by cases h) (fun f F h => by cases h) Tryz.func107 (by kernel_rfl) (by kernel_rfl) (by kernel_rfl) (by kernel_rfl) (by kernel_rfl) (by kernel_rfl) (by kernel_rfl) (by kernel_rfl) (by kernel_rfl) (by kernel_rfl) (Nat.le_of_ble_eq_true (by kernel_rfl)) rfl (fun q => ⟨[(2, .row 0), (0, .sl q)], [], [(0, .row false 99 ⟨TI.t_Point, []⟩)], [], 1⟩) (fun cs h => ?_) (fun q => by kernel_rfl) (fun q => rfl) (fun x q b r hx hF hb => ?_)
  · obtain ⟨t0, ts, rfl, h0, h⟩ := fits_cons h
    obtain rfl := fits_nil h
    refine ⟨⟨TI.t_Point, gl TI.t_Point t0⟩, by rw [fit_sl h0], ?_⟩
    exact Nat.le_of_ble_eq_true rfl
  · injection hx with hx
    injection hx with hx
    subst hx
    rw [show _ = _ from ca_sl_Clone_Point N x b]
    cases b with
    | false => exact hF
    | true =>
      have hx0 : x = [] := List.eq_nil_of_length_eq_zero (hb rfl)
      subst hx0
      exact hF

def sl_Clone_Gun (N : Nat) (l : List Gun) : Option (List Gun) := bif decide ((0 + l.length) * 64 ≤ 140737488355328) then some l else none
theorem ca_sl_Clone_Gun (N : Nat) (l : List Gun) (b : Bool) : ev (⟨Tryz.prog, N, lkF []⟩ : Ctx) (⟨lkT [], lkH []⟩ : Env2) 100 false 108 Tryz.f108.ntmps [] ((clonePat (Tryz.f108.body.getD .skip)).getD (.skip, 0, default, default, .skip, .skip)).2.2.2.2.1 (Ress [TI.l_Gun]) ⟨(4, .lit (.bool b)) :: (3, .sl ⟨TI.t_Gun, l⟩) :: [(2, .row 0), (0, .sl ⟨TI.t_Gun, l⟩)], [], [(0, .row false 63 ⟨TI.t_Gun, []⟩)], [], 1⟩ (seqK (fun s => ev (⟨Tryz.prog, N, lkF []⟩ : Ctx) (⟨lkT [], lkH []⟩ : Env2) 100 false 108 Tryz.f108.ntmps [] ((clonePat (Tryz.f108.body.getD .skip)).getD (.skip, 0, default, default, .skip, .skip)).2.2.2.2.2 (Ress [TI.l_Gun]) s (finK Tryz.prog [TI.l_Gun] [[some 63]] Tryz.f108.results.toList)) (finK Tryz.prog [TI.l_Gun] [[some 63]] Tryz.f108.results.toList)) = cond b (some []) (sl_Clone_Gun N l) := by kernel_rfl
theorem d_sl_Clone_Gun (N : Nat) : DenF Tryz.prog 108 ⟨[TI.l_Gun], [TI.l_Gun], [[some 63]], sl_Clone_Gun N⟩ := by
  refine clone_den (cx := (⟨Tryz.prog, N, lkF []⟩ : Ctx)) (e2 := (⟨lkT [], lkH []⟩ : Env2)) (c := (Tryz.f108.body.getD .skip)) (R0 := ((clonePat (Tryz.f108.body.getD .skip)).getD (.skip, 0, default, default, .skip, .skip)).1) (id := ((clonePat (Tryz.f108.body.getD .skip)).getD (.skip, 0, default, default, .skip, .skip)).2.1) (o1 := ((clonePat (Tryz.f108.body.getD .skip)).getD (.skip, 0, default, default, .skip, .skip)).2.2.1) (o2 := ((clonePat (Tryz.f108.body.getD .skip)).getD (.skip, 0, default, default, .skip, .skip)).2.2.2.1) (C := ((clonePat (Tryz.f108.body.getD .skip)).getD (.skip, 0, default, default, .skip, .skip)).2.2.2.2.1) (T := ((clonePat (Tryz.f108.body.getD .skip)).getD (.skip, 0, default, default, .skip, .skip)).2.2.2.2.2) (t := 26) (t' := 26) (e := 63) mixed (fun f F h => by cases h) (fun f F h => by cases h) Tryz.func108 (by kernel_rfl) (by kernel_rfl) (by kernel_rfl) (by kernel_rfl) (by kernel_rfl) (by kernel_rfl) (by kernel_rfl) (by kernel_rfl) (by kernel_rfl) (by kernel_rfl) (Nat.le_of_ble_eq_true (by kernel_rfl)) rfl (fun q => ⟨[(2, .row 0), (0, .sl q)], [], [(0, .row false 63 ⟨TI.t_Gun, []⟩)], [], 1⟩) (fun cs h => ?_) (fun q => by kernel_rfl) (fun q => rfl) (fun x q b r hx hF hb => ?_)
  · obtain ⟨t0, ts, rfl, h0, h⟩ := fits_cons h
    obtain rfl := fits_nil h
    refine ⟨⟨TI.t_Gun, gl TI.t_Gun t0⟩, by rw [fit_sl h0], ?_⟩
    exact Nat.le_of_ble_eq_true rfl
  · injection hx with hx
    injection hx with hx
    subst hx
    rw [show _ = _ from ca_sl_Clone_Gun N x b]
    cases b with
    | false => exact hF
    | true =>
      have hx0 : x = [] := List.eq_nil_of_length_eq_zero (hb rfl)
      subst hx0
      exact hF

def sl_Clone_RunPack (N : Nat) (l : List RunPack) : Option (List RunPack) := bif decide ((0 + l.length) * 40 ≤ 140737488355328) then some l else none
theorem ca_sl_Clone_RunPack (N : Nat) (l : List RunPack) (b : Bool) : ev (⟨Tryz.prog, N, lkF []⟩ : Ctx) (⟨lkT [], lkH []⟩ : Env2) 100 false 109 Tryz.f109.ntmps [] ((clonePat (Tryz.f109.body.getD .skip)).getD (.skip, 0, default, default, .skip, .skip)).2.2.2.2.1 (Ress [TI.l_RunPack]) ⟨(4, .lit (.bool b)) :: (3, .sl ⟨TI.t_RunPack, l⟩) :: [(2, .row 0), (0, .sl ⟨TI.t_RunPack, l⟩)], [], [(0, .row false 53 ⟨TI.t_RunPack, []⟩)], [], 1⟩ (seqK (fun s => ev (⟨Tryz.prog, N, lkF []⟩ : Ctx) (⟨lkT [], lkH []⟩ : Env2) 100 false 109 Tryz.f109.ntmps [] ((clonePat (Tryz.f109.body.getD .skip)).getD (.skip, 0, default, default, .skip, .skip)).2.2.2.2.2 (Ress [TI.l_RunPack]) s (finK Tryz.prog [TI.l_RunPack] [[some 53]] Tryz.f109.results.toList)) (finK Tryz.prog [TI.l_RunPack] [[some 53]] Tryz.f109.results.toList)) = cond b (some []) (sl_Clone_RunPack N l) := by kernel_rfl
theorem d_sl_Clone_RunPack (N : Nat) : DenF Tryz.prog 109 ⟨[TI.l_RunPack], [TI.l_RunPack], [[some 53]], sl_Clone_RunPack N⟩ := by
  refine clone_den (cx := (⟨Tryz.prog, N, lkF []⟩ : Ctx)) (e2 := (⟨lkT [], lkH []⟩ : Env2)) (c := (Tryz.f109.body.getD .skip)) (R0 := ((clonePat (Tryz.f109.body.getD .skip)).getD (.skip, 0, default, default, .skip, .skip)).1) (id := ((clonePat (Tryz.f109.body.getD .skip)).getD (.skip, 0, default, default, .skip, .skip)).2.1) (o1 := ((clonePat (Tryz.f109.body.getD .skip)).getD (.skip, 0, default, default, .skip, .skip)).2.2.1) (o2 := ((clonePat (Tryz.f109.body.getD .skip)).getD (.skip, 0, default, default, .skip, .skip)).2.2.2.1) (C := ((clonePat (Tryz.f109.body.getD .skip)).getD (.skip, 0, default, default, .skip, .skip)).2.2.2.2.1) (T := ((clonePat (Tryz.f109.body.getD .skip)).getD (.skip, 0, default, default, .skip, .skip)).2.2.2.2.2) (t := 27) (t' := 27) (e := 53) mixed (fun f F h => by cases h) (fun f F h => by cases h) Tryz.func109 (by kernel_rfl) (by kernel_rfl) (by kernel_rfl) (by kernel_rfl) (by kernel_rfl) (by kernel_rfl) (by kernel_rfl) (by kernel_rfl) (by kernel_rfl) (by kernel_rfl) (Nat.le_of_ble_eq_true (by kernel_rfl)) rfl (fun q => ⟨[(2, .row 0), (0, .sl q)], [], [(0, .row false 53 ⟨TI.t_RunPack, []⟩)], [], 1⟩) (fun cs h => ?_) (fun q => by kernel_rfl) (fun q => rfl) (fun x q b r hx hF hb => ?_)
  · obtain ⟨t0, ts, rfl, h0, h⟩ := fits_cons h
    obtain rfl := fits_nil h
    refine ⟨⟨TI.t_RunPack, gl TI.t_RunPack t0⟩, by rw [fit_sl h0], ?_⟩
    exact Nat.le_of_ble_eq_true rfl
  · injection hx with hx
    injection hx with hx
    subst hx
    rw [show _ = _ from ca_sl_Clone_RunPack N x b]
    cases b with
    | false => exact hF
    | true =>
      have hx0 : x = [] := List.eq_nil_of_length_eq_zero (hb rfl)
      subst hx0
      exact hF

def snowmaking_copyOf (N : Nat) (x0 : SnowSystem) : Option SnowSystem :=
 
  (sl_Clone_Pond N x0.Ponds).bind fun (r1 : List Pond) =>
    (sl_Clone_Pump N x0.Pumps).bind fun (r2 : List Pump) =>
      (sl_Clone_Pipe N x0.Pipes).bind fun (r3 : List Pipe) =>
        (sl_Clone_GunKind N x0.Kinds).bind fun (r4 : List GunKind) =>
          (whileF N
                (fun (p5 : Int × List GunKind) =>
                  bif decide (p5.fst < (↑r4.length : Int)) then
                    bif decide ((0 : Int) ≤ p5.fst) && decide (p5.fst < (↑(List.length p5.snd) : Int)) then
                      (sl_Clone_Point N (List.getD p5.snd (Int.toNat p5.fst) z_GunKind).Output).bind
                        fun (r6 : List Point) =>
                        bif decide ((0 : Int) ≤ p5.fst) && decide (p5.fst < (↑(List.length p5.snd) : Int)) then
                          (some
                                (List.set p5.snd (Int.toNat p5.fst)
                                  (GunKind.mk (List.getD p5.snd (Int.toNat p5.fst) z_GunKind).ID r6
                                    (List.getD p5.snd (Int.toNat p5.fst) z_GunKind).Power
                                    (List.getD p5.snd (Int.toNat p5.fst) z_GunKind).Pressure))).bind
                            fun (r7 : List GunKind) => some (Sum.inl (IntKind.i64.wrap (p5.fst + (1 : Int)), r7))
                        else none
                    else none
                  else some (Sum.inr p5.snd))
                ((0 : Int), r4)).bind
            fun (r8 : List GunKind) =>
            (sl_Clone_Gun N x0.Guns).bind fun (r9 : List Gun) =>
              (sl_Clone_RunPack N x0.Packs).bind fun (r10 : List RunPack) =>
                some
                  (SnowSystem.mk r1 r2 r3 r8 r9 r10 x0.Pressure x0.Limit x0.Time x0.Water x0.Lost x0.Energy x0.Inflow)
theorem d_snowmaking_copyOf (N : Nat) : DenF Tryz.prog 64 ⟨[.t_SnowSystem], [.t_SnowSystem], [[some 49, some 95, some 68, some 56, some 63, some 53, none, none, none, none, none, none, none]], snowmaking_copyOf N⟩ :=
  den_of (N := N) (gam := [(103, ⟨[.l_Pond], [.l_Pond], [[some 49]], sl_Clone_Pond N⟩), (104, ⟨[.l_Pump], [.l_Pump], [[some 95]], sl_Clone_Pump N⟩), (105, ⟨[.l_Pipe], [.l_Pipe], [[some 68]], sl_Clone_Pipe N⟩), (106, ⟨[.l_GunKind], [.l_GunKind], [[some 56]], sl_Clone_GunKind N⟩), (107, ⟨[.l_Point], [.l_Point], [[some 99]], sl_Clone_Point N⟩), (108, ⟨[.l_Gun], [.l_Gun], [[some 63]], sl_Clone_Gun N⟩), (109, ⟨[.l_RunPack], [.l_RunPack], [[some 53]], sl_Clone_RunPack N⟩)]) (txt := []) (hints := [(64, [([0, 1, 0, 1, 1, 1, 1, 1], ⟨[1, 2, 22], [.reg 23 .t_i64 [none], .rowc 1 3 .l_GunKind], [(.ex 0, [.rowc 1 3 .l_GunKind])], []⟩)])]) mixed (.cons (d_sl_Clone_Pond N) (.cons (d_sl_Clone_Pump N) (.cons (d_sl_Clone_Pipe N) (.cons (d_sl_Clone_GunKind N) (.cons (d_sl_Clone_Point N) (.cons (d_sl_Clone_Gun N) (.cons (d_sl_Clone_RunPack N) .nil))))))) .nil Tryz.func64 (by kernel_rfl) (by kernel_rfl)

def gun_kind (N : Nat) (x0 : List GunKind) (x1 : Int) : Option GunKind :=
 
  (whileF N
        (fun (p2 : Int × GunKind) =>
          bif decide (p2.fst < (↑x0.length : Int)) then
            bif decide ((0 : Int) ≤ p2.fst) && decide (p2.fst < (↑x0.length : Int)) then
              bif (x0.getD (Int.toNat p2.fst) z_GunKind).ID == x1 then
                some (Sum.inr (Sum.inr (x0.getD (Int.toNat p2.fst) z_GunKind)))
              else some (Sum.inl (IntKind.i64.wrap (p2.fst + (1 : Int)), p2.snd))
            else none
          else some (Sum.inr (Sum.inl p2.snd)))
        ((0 : Int), z_GunKind)).bind
    fun (r3 : GunKind ⊕ GunKind) => Sum.elim (fun (p4 : GunKind) => some z_GunKind) (fun (p5 : GunKind) => some p5) r3
theorem d_gun_kind (N : Nat) : DenF Tryz.prog 83 ⟨[.l_GunKind, .t_i64], [.t_GunKind], [[none, none, none, none]], gun_kind N⟩ :=
  den_of (N := N) (gam := []) (txt := []) (hints := [(83, [([0, 1, 0, 1], ⟨[1, 4, 7, 8], [.reg 9 .t_i64 [none], .var 4 .t_GunKind [none, none, none, none]], [(.ex 0, [.var 4 .t_GunKind [none, none, none, none]]), (.ret, [.var 4 .t_GunKind [none, none, none, none]])], []⟩)])]) mixed .nil .nil Tryz.func83 (by kernel_rfl) (by kernel_rfl)

def fixed_right (N : Nat) (x0 : List Point) : Option Bool :=
 
  (bif decide ((↑x0.length : Int) < (1 : Int)) then some true else some (decide ((↑x0.length : Int) > (64 : Int)))).bind
    fun (r1 : Bool) =>
    bif r1 then some false
    else
      (whileF N
            (fun (p2 : Int) =>
              bif decide (p2 < (↑x0.length : Int)) then
                bif decide ((0 : Int) ≤ p2) && decide (p2 < (↑x0.length : Int)) then
                  (bif decide ((x0.getD p2.toNat z_Point).X < (-1000000000 : Int)) then some true
                      else
                        bif decide ((x0.getD p2.toNat z_Point).X > (1000000000 : Int)) then some true
                        else
                          bif decide ((x0.getD p2.toNat z_Point).Y < (-1000000000 : Int)) then some true
                          else some (decide ((x0.getD p2.toNat z_Point).Y > (1000000000 : Int)))).bind
                    fun (r3 : Bool) =>
                    bif r3 then some (Sum.inr (Sum.inr false))
                    else
                      (bif decide (p2 > (0 : Int)) then
                            bif
                                decide ((0 : Int) ≤ IntKind.i64.wrap (p2 - (1 : Int))) &&
                                  decide (IntKind.i64.wrap (p2 - (1 : Int)) < (↑x0.length : Int)) then
                              some
                                (decide
                                  ((x0.getD p2.toNat z_Point).X ≤
                                    (x0.getD (IntKind.i64.wrap (p2 - (1 : Int))).toNat z_Point).X))
                            else none
                          else some false).bind
                        fun (r4 : Bool) =>
                        bif r4 then some (Sum.inr (Sum.inr false))
                        else some (Sum.inl (IntKind.i64.wrap (p2 + (1 : Int))))
                else none
              else some (Sum.inr (Sum.inl ())))
            (0 : Int)).bind
        fun (r5 : Unit ⊕ Bool) => Sum.elim (fun (p6 : Unit) => some true) (fun (p7 : Bool) => some p7) r5
theorem d_fixed_right (N : Nat) : DenF Tryz.prog 138 ⟨[.l_Point], [.t_bool], [[none]], fixed_right N⟩ :=
  den_of (N := N) (gam := []) (txt := []) (hints := [(138, [([0, 0, 1], ⟨[0], [], [(.nrm, [.reg 12 .t_bool [none]])], []⟩), ([0, 1, 0, 1, 1], ⟨[0, 13, 14], [.reg 15 .t_i64 [none]], [(.ex 0, []), (.ret, [.reg 2 .t_bool [none]])], []⟩), ([0, 0, 1, 0, 0, 1, 1, 0, 0, 1, 0, 1, 1], ⟨[0, 3, 4, 13, 14, 15], [], [(.nrm, [.reg 37 .t_bool [none]])], []⟩), ([0, 1, 1, 0, 0, 1, 1, 0, 0, 1, 0, 1, 1], ⟨[0, 13, 14, 15], [], [(.nrm, [.reg 50 .t_bool [none]])], []⟩)])]) mixed .nil .nil Tryz.func138 (by kernel_rfl) (by kernel_rfl)
end Go.Proofs.YtkhkblihdabnoaaGreat
