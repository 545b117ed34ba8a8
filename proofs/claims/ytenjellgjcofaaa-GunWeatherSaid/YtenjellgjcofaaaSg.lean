/- Written by a program (gen.py): the data types of the program: their values in Lean and their cells. No condition. -/
import Derived.Test.YtenjellgjcofaaaCmn
import Derived.Test.YtenjellgjcofaaaRows
namespace Go.Proofs.Ytenjellgjcofaaa
open Go.Cm Go.Proofs
structure Point where
  X : Int
  Y : Int
def z_Point : Point := ⟨0, 0⟩
structure GunKind where
  ID : Int
  Output : List Point
  Power : Int
  Pressure : Int
def z_GunKind : GunKind := ⟨0, [], 0, 0⟩
structure Gun where
  ID : Int
  Node : Int
  Run : Int
  Kind : Int
  State : Int
  Since : Int
  On : Int
  Off : Int
def z_Gun : Gun := ⟨0, 0, 0, 0, 0, 0, 0, 0⟩
structure Park where
  Kinds : List GunKind
  Guns : List Gun
def z_Park : Park := ⟨[], []⟩
structure Op where
  Kind : Int
  T : Int
def z_Op : Op := ⟨0, 0⟩
structure Arr2_51 where
  a0 : Int
  a1 : Int
def z_Arr2_51 : Arr2_51 := ⟨0, 0⟩
structure Draw where
  Node : Int
  Flow : Int
def z_Draw : Draw := ⟨0, 0⟩
structure moment where
  t : Int
def z_moment : moment := ⟨0⟩
structure Arr3_75 where
  a0 : Int
  a1 : Int
  a2 : Int
def z_Arr3_75 : Arr3_75 := ⟨0, 0, 0⟩
inductive TI where
  | t_i64
  | t_Point
  | l_Point
  | t_GunKind
  | l_GunKind
  | t_Gun
  | l_Gun
  | t_Park
  | t_bool
  | t_Op
  | l_Op
  | t_Arr2_51
  | t_Draw
  | l_Draw
  | t_moment
  | t_Arr3_75
  | t_str
def TI.ix : TI → Nat
  | .t_i64 => 0
  | .t_Point => 1
  | .l_Point => 2
  | .t_GunKind => 3
  | .l_GunKind => 4
  | .t_Gun => 5
  | .l_Gun => 6
  | .t_Park => 7
  | .t_bool => 8
  | .t_Op => 9
  | .l_Op => 10
  | .t_Arr2_51 => 11
  | .t_Draw => 12
  | .l_Draw => 13
  | .t_moment => 14
  | .t_Arr3_75 => 15
  | .t_str => 16
def TI.of : Nat → TI
  | 0 => .t_i64
  | 1 => .t_Point
  | 2 => .l_Point
  | 3 => .t_GunKind
  | 4 => .l_GunKind
  | 5 => .t_Gun
  | 6 => .l_Gun
  | 7 => .t_Park
  | 8 => .t_bool
  | 9 => .t_Op
  | 10 => .l_Op
  | 11 => .t_Arr2_51
  | 12 => .t_Draw
  | 13 => .l_Draw
  | 14 => .t_moment
  | 15 => .t_Arr3_75
  | 16 => .t_str
  | _ => .t_i64
theorem TI.of_ix (a : TI) : TI.of a.ix = a := by cases a <;> rfl
instance : DecidableEq TI := fun a b => if h : a.ix = b.ix then .isTrue (by rw [← TI.of_ix a, h, TI.of_ix]) else .isFalse (fun e => h (by rw [e]))
def Car : TI → Type
  | .t_i64 => Int
  | .t_Point => Point
  | .l_Point => List Point
  | .t_GunKind => GunKind
  | .l_GunKind => List GunKind
  | .t_Gun => Gun
  | .l_Gun => List Gun
  | .t_Park => Park
  | .t_bool => Bool
  | .t_Op => Op
  | .l_Op => List Op
  | .t_Arr2_51 => Arr2_51
  | .t_Draw => Draw
  | .l_Draw => List Draw
  | .t_moment => moment
  | .t_Arr3_75 => Arr3_75
  | .t_str => ByteArray
def shp : TI → List (LK TI)
  | .t_i64 => [.int .i64]
  | .t_Point => [.int .i64, .int .i64]
  | .l_Point => [.sl .t_Point]
  | .t_GunKind => [.int .i64, .sl .t_Point, .int .i64, .int .i64]
  | .l_GunKind => [.sl .t_GunKind]
  | .t_Gun => [.int .i64, .int .i64, .int .i64, .int .i64, .int .i64, .int .i64, .int .i64, .int .i64]
  | .l_Gun => [.sl .t_Gun]
  | .t_Park => [.sl .t_GunKind, .sl .t_Gun]
  | .t_bool => [.bool]
  | .t_Op => [.int .i64, .int .i64]
  | .l_Op => [.sl .t_Op]
  | .t_Arr2_51 => [.int .i64, .int .i64]
  | .t_Draw => [.int .i64, .int .i64]
  | .l_Draw => [.sl .t_Draw]
  | .t_moment => [.int .i64]
  | .t_Arr3_75 => [.int .i64, .int .i64, .int .i64]
  | .t_str => [.str]
def dft : (e : TI) → Car e
  | .t_i64 => (0 : Int)
  | .t_Point => (z_Point : Point)
  | .l_Point => ([] : List Point)
  | .t_GunKind => (z_GunKind : GunKind)
  | .l_GunKind => ([] : List GunKind)
  | .t_Gun => (z_Gun : Gun)
  | .l_Gun => ([] : List Gun)
  | .t_Park => (z_Park : Park)
  | .t_bool => (false : Bool)
  | .t_Op => (z_Op : Op)
  | .l_Op => ([] : List Op)
  | .t_Arr2_51 => (z_Arr2_51 : Arr2_51)
  | .t_Draw => (z_Draw : Draw)
  | .l_Draw => ([] : List Draw)
  | .t_moment => (z_moment : moment)
  | .t_Arr3_75 => (z_Arr3_75 : Arr3_75)
  | .t_str => (⟨#[]⟩ : ByteArray)
def enc_t_i64 (x : Int) : List (TreeOf TI Car) := [.lit (.int .i64 x)]
def dec_t_i64 (ts : List (TreeOf TI Car)) : Int := gi (tx ts 0)
theorem fit_t_i64 (x : Int) : fits (shp .t_i64) (enc_t_i64 x) = true := rfl
theorem ed_t_i64 (ts : List (TreeOf TI Car)) (h : fits (shp .t_i64) ts = true) : enc_t_i64 (dec_t_i64 ts) = ts := by
  obtain ⟨t0, ts, rfl, h0, h⟩ := fits_cons h
  obtain rfl := fits_nil h
  show [.lit (.int .i64 (gi t0))] = [t0]
  rw [fit_int h0]
def enc_t_Point (x : Point) : List (TreeOf TI Car) := [.lit (.int .i64 x.X), .lit (.int .i64 x.Y)]
def dec_t_Point (ts : List (TreeOf TI Car)) : Point := ⟨gi (tx ts 0), gi (tx ts 1)⟩
theorem fit_t_Point (x : Point) : fits (shp .t_Point) (enc_t_Point x) = true := rfl
theorem ed_t_Point (ts : List (TreeOf TI Car)) (h : fits (shp .t_Point) ts = true) : enc_t_Point (dec_t_Point ts) = ts := by
  obtain ⟨t0, ts, rfl, h0, h⟩ := fits_cons h
  obtain ⟨t1, ts, rfl, h1, h⟩ := fits_cons h
  obtain rfl := fits_nil h
  show [.lit (.int .i64 (gi t0)), .lit (.int .i64 (gi t1))] = [t0, t1]
  rw [fit_int h0, fit_int h1]
def enc_l_Point (x : List Point) : List (TreeOf TI Car) := [.sl ⟨.t_Point, x⟩]
def dec_l_Point (ts : List (TreeOf TI Car)) : List Point := gl (Car := Car) .t_Point (tx ts 0)
theorem fit_l_Point (x : List Point) : fits (shp .l_Point) (enc_l_Point x) = true := rfl
theorem ed_l_Point (ts : List (TreeOf TI Car)) (h : fits (shp .l_Point) ts = true) : enc_l_Point (dec_l_Point ts) = ts := by
  obtain ⟨t0, ts, rfl, h0, h⟩ := fits_cons h
  obtain rfl := fits_nil h
  show [.sl ⟨.t_Point, gl .t_Point t0⟩] = [t0]
  rw [fit_sl h0]
def enc_t_GunKind (x : GunKind) : List (TreeOf TI Car) := [.lit (.int .i64 x.ID), .sl ⟨.t_Point, x.Output⟩, .lit (.int .i64 x.Power), .lit (.int .i64 x.Pressure)]
def dec_t_GunKind (ts : List (TreeOf TI Car)) : GunKind := ⟨gi (tx ts 0), gl (Car := Car) .t_Point (tx ts 1), gi (tx ts 2), gi (tx ts 3)⟩
theorem fit_t_GunKind (x : GunKind) : fits (shp .t_GunKind) (enc_t_GunKind x) = true := rfl
theorem ed_t_GunKind (ts : List (TreeOf TI Car)) (h : fits (shp .t_GunKind) ts = true) : enc_t_GunKind (dec_t_GunKind ts) = ts := by
  obtain ⟨t0, ts, rfl, h0, h⟩ := fits_cons h
  obtain ⟨t1, ts, rfl, h1, h⟩ := fits_cons h
  obtain ⟨t2, ts, rfl, h2, h⟩ := fits_cons h
  obtain ⟨t3, ts, rfl, h3, h⟩ := fits_cons h
  obtain rfl := fits_nil h
  show [.lit (.int .i64 (gi t0)), .sl ⟨.t_Point, gl .t_Point t1⟩, .lit (.int .i64 (gi t2)), .lit (.int .i64 (gi t3))] = [t0, t1, t2, t3]
  rw [fit_int h0, fit_sl h1, fit_int h2, fit_int h3]
def enc_l_GunKind (x : List GunKind) : List (TreeOf TI Car) := [.sl ⟨.t_GunKind, x⟩]
def dec_l_GunKind (ts : List (TreeOf TI Car)) : List GunKind := gl (Car := Car) .t_GunKind (tx ts 0)
theorem fit_l_GunKind (x : List GunKind) : fits (shp .l_GunKind) (enc_l_GunKind x) = true := rfl
theorem ed_l_GunKind (ts : List (TreeOf TI Car)) (h : fits (shp .l_GunKind) ts = true) : enc_l_GunKind (dec_l_GunKind ts) = ts := by
  obtain ⟨t0, ts, rfl, h0, h⟩ := fits_cons h
  obtain rfl := fits_nil h
  show [.sl ⟨.t_GunKind, gl .t_GunKind t0⟩] = [t0]
  rw [fit_sl h0]
def enc_t_Gun (x : Gun) : List (TreeOf TI Car) := [.lit (.int .i64 x.ID), .lit (.int .i64 x.Node), .lit (.int .i64 x.Run), .lit (.int .i64 x.Kind), .lit (.int .i64 x.State), .lit (.int .i64 x.Since), .lit (.int .i64 x.On), .lit (.int .i64 x.Off)]
def dec_t_Gun (ts : List (TreeOf TI Car)) : Gun := ⟨gi (tx ts 0), gi (tx ts 1), gi (tx ts 2), gi (tx ts 3), gi (tx ts 4), gi (tx ts 5), gi (tx ts 6), gi (tx ts 7)⟩
theorem fit_t_Gun (x : Gun) : fits (shp .t_Gun) (enc_t_Gun x) = true := rfl
theorem ed_t_Gun (ts : List (TreeOf TI Car)) (h : fits (shp .t_Gun) ts = true) : enc_t_Gun (dec_t_Gun ts) = ts := by
  obtain ⟨t0, ts, rfl, h0, h⟩ := fits_cons h
  obtain ⟨t1, ts, rfl, h1, h⟩ := fits_cons h
  obtain ⟨t2, ts, rfl, h2, h⟩ := fits_cons h
  obtain ⟨t3, ts, rfl, h3, h⟩ := fits_cons h
  obtain ⟨t4, ts, rfl, h4, h⟩ := fits_cons h
  obtain ⟨t5, ts, rfl, h5, h⟩ := fits_cons h
  obtain ⟨t6, ts, rfl, h6, h⟩ := fits_cons h
  obtain ⟨t7, ts, rfl, h7, h⟩ := fits_cons h
  obtain rfl := fits_nil h
  show [.lit (.int .i64 (gi t0)), .lit (.int .i64 (gi t1)), .lit (.int .i64 (gi t2)), .lit (.int .i64 (gi t3)), .lit (.int .i64 (gi t4)), .lit (.int .i64 (gi t5)), .lit (.int .i64 (gi t6)), .lit (.int .i64 (gi t7))] = [t0, t1, t2, t3, t4, t5, t6, t7]
  rw [fit_int h0, fit_int h1, fit_int h2, fit_int h3, fit_int h4, fit_int h5, fit_int h6, fit_int h7]
def enc_l_Gun (x : List Gun) : List (TreeOf TI Car) := [.sl ⟨.t_Gun, x⟩]
def dec_l_Gun (ts : List (TreeOf TI Car)) : List Gun := gl (Car := Car) .t_Gun (tx ts 0)
theorem fit_l_Gun (x : List Gun) : fits (shp .l_Gun) (enc_l_Gun x) = true := rfl
theorem ed_l_Gun (ts : List (TreeOf TI Car)) (h : fits (shp .l_Gun) ts = true) : enc_l_Gun (dec_l_Gun ts) = ts := by
  obtain ⟨t0, ts, rfl, h0, h⟩ := fits_cons h
  obtain rfl := fits_nil h
  show [.sl ⟨.t_Gun, gl .t_Gun t0⟩] = [t0]
  rw [fit_sl h0]
def enc_t_Park (x : Park) : List (TreeOf TI Car) := [.sl ⟨.t_GunKind, x.Kinds⟩, .sl ⟨.t_Gun, x.Guns⟩]
def dec_t_Park (ts : List (TreeOf TI Car)) : Park := ⟨gl (Car := Car) .t_GunKind (tx ts 0), gl (Car := Car) .t_Gun (tx ts 1)⟩
theorem fit_t_Park (x : Park) : fits (shp .t_Park) (enc_t_Park x) = true := rfl
theorem ed_t_Park (ts : List (TreeOf TI Car)) (h : fits (shp .t_Park) ts = true) : enc_t_Park (dec_t_Park ts) = ts := by
  obtain ⟨t0, ts, rfl, h0, h⟩ := fits_cons h
  obtain ⟨t1, ts, rfl, h1, h⟩ := fits_cons h
  obtain rfl := fits_nil h
  show [.sl ⟨.t_GunKind, gl .t_GunKind t0⟩, .sl ⟨.t_Gun, gl .t_Gun t1⟩] = [t0, t1]
  rw [fit_sl h0, fit_sl h1]
def enc_t_bool (x : Bool) : List (TreeOf TI Car) := [.lit (.bool x)]
def dec_t_bool (ts : List (TreeOf TI Car)) : Bool := gb (tx ts 0)
theorem fit_t_bool (x : Bool) : fits (shp .t_bool) (enc_t_bool x) = true := rfl
theorem ed_t_bool (ts : List (TreeOf TI Car)) (h : fits (shp .t_bool) ts = true) : enc_t_bool (dec_t_bool ts) = ts := by
  obtain ⟨t0, ts, rfl, h0, h⟩ := fits_cons h
  obtain rfl := fits_nil h
  show [.lit (.bool (gb t0))] = [t0]
  rw [fit_bool h0]
def enc_t_Op (x : Op) : List (TreeOf TI Car) := [.lit (.int .i64 x.Kind), .lit (.int .i64 x.T)]
def dec_t_Op (ts : List (TreeOf TI Car)) : Op := ⟨gi (tx ts 0), gi (tx ts 1)⟩
theorem fit_t_Op (x : Op) : fits (shp .t_Op) (enc_t_Op x) = true := rfl
theorem ed_t_Op (ts : List (TreeOf TI Car)) (h : fits (shp .t_Op) ts = true) : enc_t_Op (dec_t_Op ts) = ts := by
  obtain ⟨t0, ts, rfl, h0, h⟩ := fits_cons h
  obtain ⟨t1, ts, rfl, h1, h⟩ := fits_cons h
  obtain rfl := fits_nil h
  show [.lit (.int .i64 (gi t0)), .lit (.int .i64 (gi t1))] = [t0, t1]
  rw [fit_int h0, fit_int h1]
def enc_l_Op (x : List Op) : List (TreeOf TI Car) := [.sl ⟨.t_Op, x⟩]
def dec_l_Op (ts : List (TreeOf TI Car)) : List Op := gl (Car := Car) .t_Op (tx ts 0)
theorem fit_l_Op (x : List Op) : fits (shp .l_Op) (enc_l_Op x) = true := rfl
theorem ed_l_Op (ts : List (TreeOf TI Car)) (h : fits (shp .l_Op) ts = true) : enc_l_Op (dec_l_Op ts) = ts := by
  obtain ⟨t0, ts, rfl, h0, h⟩ := fits_cons h
  obtain rfl := fits_nil h
  show [.sl ⟨.t_Op, gl .t_Op t0⟩] = [t0]
  rw [fit_sl h0]
def enc_t_Arr2_51 (x : Arr2_51) : List (TreeOf TI Car) := [.lit (.int .i64 x.a0), .lit (.int .i64 x.a1)]
def dec_t_Arr2_51 (ts : List (TreeOf TI Car)) : Arr2_51 := ⟨gi (tx ts 0), gi (tx ts 1)⟩
theorem fit_t_Arr2_51 (x : Arr2_51) : fits (shp .t_Arr2_51) (enc_t_Arr2_51 x) = true := rfl
theorem ed_t_Arr2_51 (ts : List (TreeOf TI Car)) (h : fits (shp .t_Arr2_51) ts = true) : enc_t_Arr2_51 (dec_t_Arr2_51 ts) = ts := by
  obtain ⟨t0, ts, rfl, h0, h⟩ := fits_cons h
  obtain ⟨t1, ts, rfl, h1, h⟩ := fits_cons h
  obtain rfl := fits_nil h
  show [.lit (.int .i64 (gi t0)), .lit (.int .i64 (gi t1))] = [t0, t1]
  rw [fit_int h0, fit_int h1]
def enc_t_Draw (x : Draw) : List (TreeOf TI Car) := [.lit (.int .i64 x.Node), .lit (.int .i64 x.Flow)]
def dec_t_Draw (ts : List (TreeOf TI Car)) : Draw := ⟨gi (tx ts 0), gi (tx ts 1)⟩
theorem fit_t_Draw (x : Draw) : fits (shp .t_Draw) (enc_t_Draw x) = true := rfl
theorem ed_t_Draw (ts : List (TreeOf TI Car)) (h : fits (shp .t_Draw) ts = true) : enc_t_Draw (dec_t_Draw ts) = ts := by
  obtain ⟨t0, ts, rfl, h0, h⟩ := fits_cons h
  obtain ⟨t1, ts, rfl, h1, h⟩ := fits_cons h
  obtain rfl := fits_nil h
  show [.lit (.int .i64 (gi t0)), .lit (.int .i64 (gi t1))] = [t0, t1]
  rw [fit_int h0, fit_int h1]
def enc_l_Draw (x : List Draw) : List (TreeOf TI Car) := [.sl ⟨.t_Draw, x⟩]
def dec_l_Draw (ts : List (TreeOf TI Car)) : List Draw := gl (Car := Car) .t_Draw (tx ts 0)
theorem fit_l_Draw (x : List Draw) : fits (shp .l_Draw) (enc_l_Draw x) = true := rfl
theorem ed_l_Draw (ts : List (TreeOf TI Car)) (h : fits (shp .l_Draw) ts = true) : enc_l_Draw (dec_l_Draw ts) = ts := by
  obtain ⟨t0, ts, rfl, h0, h⟩ := fits_cons h
  obtain rfl := fits_nil h
  show [.sl ⟨.t_Draw, gl .t_Draw t0⟩] = [t0]
  rw [fit_sl h0]
def enc_t_moment (x : moment) : List (TreeOf TI Car) := [.lit (.int .i64 x.t)]
def dec_t_moment (ts : List (TreeOf TI Car)) : moment := ⟨gi (tx ts 0)⟩
theorem fit_t_moment (x : moment) : fits (shp .t_moment) (enc_t_moment x) = true := rfl
theorem ed_t_moment (ts : List (TreeOf TI Car)) (h : fits (shp .t_moment) ts = true) : enc_t_moment (dec_t_moment ts) = ts := by
  obtain ⟨t0, ts, rfl, h0, h⟩ := fits_cons h
  obtain rfl := fits_nil h
  show [.lit (.int .i64 (gi t0))] = [t0]
  rw [fit_int h0]
def enc_t_Arr3_75 (x : Arr3_75) : List (TreeOf TI Car) := [.lit (.int .i64 x.a0), .lit (.int .i64 x.a1), .lit (.int .i64 x.a2)]
def dec_t_Arr3_75 (ts : List (TreeOf TI Car)) : Arr3_75 := ⟨gi (tx ts 0), gi (tx ts 1), gi (tx ts 2)⟩
theorem fit_t_Arr3_75 (x : Arr3_75) : fits (shp .t_Arr3_75) (enc_t_Arr3_75 x) = true := rfl
theorem ed_t_Arr3_75 (ts : List (TreeOf TI Car)) (h : fits (shp .t_Arr3_75) ts = true) : enc_t_Arr3_75 (dec_t_Arr3_75 ts) = ts := by
  obtain ⟨t0, ts, rfl, h0, h⟩ := fits_cons h
  obtain ⟨t1, ts, rfl, h1, h⟩ := fits_cons h
  obtain ⟨t2, ts, rfl, h2, h⟩ := fits_cons h
  obtain rfl := fits_nil h
  show [.lit (.int .i64 (gi t0)), .lit (.int .i64 (gi t1)), .lit (.int .i64 (gi t2))] = [t0, t1, t2]
  rw [fit_int h0, fit_int h1, fit_int h2]
def enc_t_str (x : ByteArray) : List (TreeOf TI Car) := [.lit (.string x)]
def dec_t_str (ts : List (TreeOf TI Car)) : ByteArray := gs (tx ts 0)
theorem fit_t_str (x : ByteArray) : fits (shp .t_str) (enc_t_str x) = true := rfl
theorem ed_t_str (ts : List (TreeOf TI Car)) (h : fits (shp .t_str) ts = true) : enc_t_str (dec_t_str ts) = ts := by
  obtain ⟨t0, ts, rfl, h0, h⟩ := fits_cons h
  obtain rfl := fits_nil h
  show [.lit (.string (gs t0))] = [t0]
  rw [fit_str h0]
def enc : (e : TI) → Car e → List (TreeOf TI Car)
  | .t_i64 => enc_t_i64
  | .t_Point => enc_t_Point
  | .l_Point => enc_l_Point
  | .t_GunKind => enc_t_GunKind
  | .l_GunKind => enc_l_GunKind
  | .t_Gun => enc_t_Gun
  | .l_Gun => enc_l_Gun
  | .t_Park => enc_t_Park
  | .t_bool => enc_t_bool
  | .t_Op => enc_t_Op
  | .l_Op => enc_l_Op
  | .t_Arr2_51 => enc_t_Arr2_51
  | .t_Draw => enc_t_Draw
  | .l_Draw => enc_l_Draw
  | .t_moment => enc_t_moment
  | .t_Arr3_75 => enc_t_Arr3_75
  | .t_str => enc_t_str
def dec : (e : TI) → List (TreeOf TI Car) → Car e
  | .t_i64 => dec_t_i64
  | .t_Point => dec_t_Point
  | .l_Point => dec_l_Point
  | .t_GunKind => dec_t_GunKind
  | .l_GunKind => dec_l_GunKind
  | .t_Gun => dec_t_Gun
  | .l_Gun => dec_l_Gun
  | .t_Park => dec_t_Park
  | .t_bool => dec_t_bool
  | .t_Op => dec_t_Op
  | .l_Op => dec_l_Op
  | .t_Arr2_51 => dec_t_Arr2_51
  | .t_Draw => dec_t_Draw
  | .l_Draw => dec_l_Draw
  | .t_moment => dec_t_moment
  | .t_Arr3_75 => dec_t_Arr3_75
  | .t_str => dec_t_str
def isAg : TI → Bool
  | .t_i64 => false
  | .t_Point => true
  | .l_Point => false
  | .t_GunKind => true
  | .l_GunKind => false
  | .t_Gun => true
  | .l_Gun => false
  | .t_Park => true
  | .t_bool => false
  | .t_Op => true
  | .l_Op => false
  | .t_Arr2_51 => true
  | .t_Draw => true
  | .l_Draw => false
  | .t_moment => true
  | .t_Arr3_75 => true
  | .t_str => false
def ofT : TypeId → Option TI
  | 3 => some .t_i64
  | 4 => some .t_bool
  | 9 => some .t_str
  | 22 => some .l_GunKind
  | 23 => some .l_Gun
  | 25 => some .t_Park
  | 28 => some .t_i64
  | 31 => some .t_Gun
  | 37 => some .l_Point
  | 39 => some .t_GunKind
  | 41 => some .l_Draw
  | 46 => some .l_Op
  | 49 => some .t_Op
  | 51 => some .t_Arr2_51
  | 53 => some .t_Draw
  | 65 => some .t_Point
  | 69 => some .t_moment
  | 75 => some .t_Arr3_75
  | _ => none
instance sig : Sig where
  TI := TI
  deq := inferInstance
  Car := Car
  dft := dft
  shp := shp
  isAgg := isAg
  enc := enc
  dec := dec
  ofId := ofT
  enc_fits := fun e => match e with
    | .t_i64 => fit_t_i64
    | .t_Point => fit_t_Point
    | .l_Point => fit_l_Point
    | .t_GunKind => fit_t_GunKind
    | .l_GunKind => fit_l_GunKind
    | .t_Gun => fit_t_Gun
    | .l_Gun => fit_l_Gun
    | .t_Park => fit_t_Park
    | .t_bool => fit_t_bool
    | .t_Op => fit_t_Op
    | .l_Op => fit_l_Op
    | .t_Arr2_51 => fit_t_Arr2_51
    | .t_Draw => fit_t_Draw
    | .l_Draw => fit_l_Draw
    | .t_moment => fit_t_moment
    | .t_Arr3_75 => fit_t_Arr3_75
    | .t_str => fit_t_str
  enc_dec := fun e => match e with
    | .t_i64 => ed_t_i64
    | .t_Point => ed_t_Point
    | .l_Point => ed_l_Point
    | .t_GunKind => ed_t_GunKind
    | .l_GunKind => ed_l_GunKind
    | .t_Gun => ed_t_Gun
    | .l_Gun => ed_l_Gun
    | .t_Park => ed_t_Park
    | .t_bool => ed_t_bool
    | .t_Op => ed_t_Op
    | .l_Op => ed_l_Op
    | .t_Arr2_51 => ed_t_Arr2_51
    | .t_Draw => ed_t_Draw
    | .l_Draw => ed_l_Draw
    | .t_moment => ed_t_moment
    | .t_Arr3_75 => ed_t_Arr3_75
    | .t_str => ed_t_str
theorem mixed : Try.prog.follows .mixedOrders = true := by kernel_rfl
end Go.Proofs.Ytenjellgjcofaaa
