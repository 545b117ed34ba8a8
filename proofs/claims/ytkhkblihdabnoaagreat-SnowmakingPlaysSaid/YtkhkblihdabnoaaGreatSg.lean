/- Written by a program (gen.py): the data types of the program: their values in Lean and their cells. No condition. -/
import Derived.Test.YtkhkblihdabnoaaGreatCmn
import Derived.Test.YtkhkblihdabnoaaGreatRows
namespace Go.Proofs.YtkhkblihdabnoaaGreat
open Go.Cm Go.Proofs
structure Pond where
  ID : Int
  Volume : Int
  Least : Int
  Most : Int
  Inflow : Int
def z_Pond : Pond := ⟨0, 0, 0, 0, 0⟩
structure Pump where
  ID : Int
  Flow : Int
  Power : Int
def z_Pump : Pump := ⟨0, 0, 0⟩
structure Pipe where
  ID : Int
  From : Int
  To : Int
  Loss : Int
  Rise : Int
def z_Pipe : Pipe := ⟨0, 0, 0, 0, 0⟩
structure Point where
  X : Int
  Y : Int
def z_Point : Point := ⟨0, 0⟩
structure GunKind where
  ID : Int
  Output : List Point
  Power : Int
  Pressure : Int
def z_GunKind : GunKind := ⟨0, [], 0, 0⟩
structure Gun where
  ID : Int
  Node : Int
  Run : Int
  Kind : Int
  State : Int
  Since : Int
  On : Int
  Off : Int
def z_Gun : Gun := ⟨0, 0, 0, 0, 0, 0, 0, 0⟩
structure Pack where
  Natural : Int
  Machine : Int
  Density : Int
def z_Pack : Pack := ⟨0, 0, 0⟩
structure RunPack where
  Run : Int
  Area : Int
  Pack : Pack
def z_RunPack : RunPack := ⟨0, 0, z_Pack⟩
structure SnowSystem where
  Ponds : List Pond
  Pumps : List Pump
  Pipes : List Pipe
  Kinds : List GunKind
  Guns : List Gun
  Packs : List RunPack
  Pressure : Int
  Limit : Int
  Time : Int
  Water : Int
  Lost : Int
  Energy : Int
  Inflow : Int
def z_SnowSystem : SnowSystem := ⟨[], [], [], [], [], [], 0, 0, 0, 0, 0, 0, 0⟩
structure Op where
  Kind : Int
  N : Int
  Wet : Int
def z_Op : Op := ⟨0, 0, 0⟩
structure Draw where
  Node : Int
  Flow : Int
def z_Draw : Draw := ⟨0, 0⟩
structure moment where
  t : Int
def z_moment : moment := ⟨0⟩
structure Arr3_143 where
  a0 : Int
  a1 : Int
  a2 : Int
def z_Arr3_143 : Arr3_143 := ⟨0, 0, 0⟩
structure Arr2_144 where
  a0 : Int
  a1 : Int
def z_Arr2_144 : Arr2_144 := ⟨0, 0⟩
inductive TI where
  | t_i64
  | t_Pond
  | l_Pond
  | t_Pump
  | l_Pump
  | t_Pipe
  | l_Pipe
  | t_Point
  | l_Point
  | t_GunKind
  | l_GunKind
  | t_Gun
  | l_Gun
  | t_Pack
  | t_RunPack
  | l_RunPack
  | t_SnowSystem
  | t_bool
  | t_Op
  | l_Op
  | t_Draw
  | l_Draw
  | l_i64
  | t_moment
  | t_Arr3_143
  | t_Arr2_144
  | t_str
  | t_u64
def TI.ix : TI → Nat
  | .t_i64 => 0
  | .t_Pond => 1
  | .l_Pond => 2
  | .t_Pump => 3
  | .l_Pump => 4
  | .t_Pipe => 5
  | .l_Pipe => 6
  | .t_Point => 7
  | .l_Point => 8
  | .t_GunKind => 9
  | .l_GunKind => 10
  | .t_Gun => 11
  | .l_Gun => 12
  | .t_Pack => 13
  | .t_RunPack => 14
  | .l_RunPack => 15
  | .t_SnowSystem => 16
  | .t_bool => 17
  | .t_Op => 18
  | .l_Op => 19
  | .t_Draw => 20
  | .l_Draw => 21
  | .l_i64 => 22
  | .t_moment => 23
  | .t_Arr3_143 => 24
  | .t_Arr2_144 => 25
  | .t_str => 26
  | .t_u64 => 27
def TI.of : Nat → TI
  | 0 => .t_i64
  | 1 => .t_Pond
  | 2 => .l_Pond
  | 3 => .t_Pump
  | 4 => .l_Pump
  | 5 => .t_Pipe
  | 6 => .l_Pipe
  | 7 => .t_Point
  | 8 => .l_Point
  | 9 => .t_GunKind
  | 10 => .l_GunKind
  | 11 => .t_Gun
  | 12 => .l_Gun
  | 13 => .t_Pack
  | 14 => .t_RunPack
  | 15 => .l_RunPack
  | 16 => .t_SnowSystem
  | 17 => .t_bool
  | 18 => .t_Op
  | 19 => .l_Op
  | 20 => .t_Draw
  | 21 => .l_Draw
  | 22 => .l_i64
  | 23 => .t_moment
  | 24 => .t_Arr3_143
  | 25 => .t_Arr2_144
  | 26 => .t_str
  | 27 => .t_u64
  | _ => .t_i64
theorem TI.of_ix (a : TI) : TI.of a.ix = a := by cases a <;> rfl
instance : DecidableEq TI := fun a b => if h : a.ix = b.ix then .isTrue (by rw [← TI.of_ix a, h, TI.of_ix]) else .isFalse (fun e => h (by rw [e]))
def Car : TI → Type
  | .t_i64 => Int
  | .t_Pond => Pond
  | .l_Pond => List Pond
  | .t_Pump => Pump
  | .l_Pump => List Pump
  | .t_Pipe => Pipe
  | .l_Pipe => List Pipe
  | .t_Point => Point
  | .l_Point => List Point
  | .t_GunKind => GunKind
  | .l_GunKind => List GunKind
  | .t_Gun => Gun
  | .l_Gun => List Gun
  | .t_Pack => Pack
  | .t_RunPack => RunPack
  | .l_RunPack => List RunPack
  | .t_SnowSystem => SnowSystem
  | .t_bool => Bool
  | .t_Op => Op
  | .l_Op => List Op
  | .t_Draw => Draw
  | .l_Draw => List Draw
  | .l_i64 => List Int
  | .t_moment => moment
  | .t_Arr3_143 => Arr3_143
  | .t_Arr2_144 => Arr2_144
  | .t_str => ByteArray
  | .t_u64 => Int
def shp : TI → List (LK TI)
  | .t_i64 => [.int .i64]
  | .t_Pond => [.int .i64, .int .i64, .int .i64, .int .i64, .int .i64]
  | .l_Pond => [.sl .t_Pond]
  | .t_Pump => [.int .i64, .int .i64, .int .i64]
  | .l_Pump => [.sl .t_Pump]
  | .t_Pipe => [.int .i64, .int .i64, .int .i64, .int .i64, .int .i64]
  | .l_Pipe => [.sl .t_Pipe]
  | .t_Point => [.int .i64, .int .i64]
  | .l_Point => [.sl .t_Point]
  | .t_GunKind => [.int .i64, .sl .t_Point, .int .i64, .int .i64]
  | .l_GunKind => [.sl .t_GunKind]
  | .t_Gun => [.int .i64, .int .i64, .int .i64, .int .i64, .int .i64, .int .i64, .int .i64, .int .i64]
  | .l_Gun => [.sl .t_Gun]
  | .t_Pack => [.int .i64, .int .i64, .int .i64]
  | .t_RunPack => [.int .i64, .int .i64, .int .i64, .int .i64, .int .i64]
  | .l_RunPack => [.sl .t_RunPack]
  | .t_SnowSystem => [.sl .t_Pond, .sl .t_Pump, .sl .t_Pipe, .sl .t_GunKind, .sl .t_Gun, .sl .t_RunPack, .int .i64, .int .i64, .int .i64, .int .i64, .int .i64, .int .i64, .int .i64]
  | .t_bool => [.bool]
  | .t_Op => [.int .i64, .int .i64, .int .i64]
  | .l_Op => [.sl .t_Op]
  | .t_Draw => [.int .i64, .int .i64]
  | .l_Draw => [.sl .t_Draw]
  | .l_i64 => [.sl .t_i64]
  | .t_moment => [.int .i64]
  | .t_Arr3_143 => [.int .i64, .int .i64, .int .i64]
  | .t_Arr2_144 => [.int .i64, .int .i64]
  | .t_str => [.str]
  | .t_u64 => [.int .u64]
def dft : (e : TI) → Car e
  | .t_i64 => (0 : Int)
  | .t_Pond => (z_Pond : Pond)
  | .l_Pond => ([] : List Pond)
  | .t_Pump => (z_Pump : Pump)
  | .l_Pump => ([] : List Pump)
  | .t_Pipe => (z_Pipe : Pipe)
  | .l_Pipe => ([] : List Pipe)
  | .t_Point => (z_Point : Point)
  | .l_Point => ([] : List Point)
  | .t_GunKind => (z_GunKind : GunKind)
  | .l_GunKind => ([] : List GunKind)
  | .t_Gun => (z_Gun : Gun)
  | .l_Gun => ([] : List Gun)
  | .t_Pack => (z_Pack : Pack)
  | .t_RunPack => (z_RunPack : RunPack)
  | .l_RunPack => ([] : List RunPack)
  | .t_SnowSystem => (z_SnowSystem : SnowSystem)
  | .t_bool => (false : Bool)
  | .t_Op => (z_Op : Op)
  | .l_Op => ([] : List Op)
  | .t_Draw => (z_Draw : Draw)
  | .l_Draw => ([] : List Draw)
  | .l_i64 => ([] : List Int)
  | .t_moment => (z_moment : moment)
  | .t_Arr3_143 => (z_Arr3_143 : Arr3_143)
  | .t_Arr2_144 => (z_Arr2_144 : Arr2_144)
  | .t_str => (⟨#[]⟩ : ByteArray)
  | .t_u64 => (0 : Int)
def enc_t_i64 (x : Int) : List (TreeOf TI Car) := [.lit (.int .i64 x)]
def dec_t_i64 (ts : List (TreeOf TI Car)) : Int := gi (tx ts 0)
theorem fit_t_i64 (x : Int) : fits (shp .t_i64) (enc_t_i64 x) = true := rfl
theorem ed_t_i64 (ts : List (TreeOf TI Car)) (h : fits (shp .t_i64) ts = true) : enc_t_i64 (dec_t_i64 ts) = ts := by
  obtain ⟨t0, ts, rfl, h0, h⟩ := fits_cons h
  obtain rfl := fits_nil h
  show [.lit (.int .i64 (gi t0))] = [t0]
  rw [fit_int h0]
def enc_t_Pond (x : Pond) : List (TreeOf TI Car) := [.lit (.int .i64 x.ID), .lit (.int .i64 x.Volume), .lit (.int .i64 x.Least), .lit (.int .i64 x.Most), .lit (.int .i64 x.Inflow)]
def dec_t_Pond (ts : List (TreeOf TI Car)) : Pond := ⟨gi (tx ts 0), gi (tx ts 1), gi (tx ts 2), gi (tx ts 3), gi (tx ts 4)⟩
theorem fit_t_Pond (x : Pond) : fits (shp .t_Pond) (enc_t_Pond x) = true := rfl
theorem ed_t_Pond (ts : List (TreeOf TI Car)) (h : fits (shp .t_Pond) ts = true) : enc_t_Pond (dec_t_Pond ts) = ts := by
  obtain ⟨t0, ts, rfl, h0, h⟩ := fits_cons h
  obtain ⟨t1, ts, rfl, h1, h⟩ := fits_cons h
  obtain ⟨t2, ts, rfl, h2, h⟩ := fits_cons h
  obtain ⟨t3, ts, rfl, h3, h⟩ := fits_cons h
  obtain ⟨t4, ts, rfl, h4, h⟩ := fits_cons h
  obtain rfl := fits_nil h
  show [.lit (.int .i64 (gi t0)), .lit (.int .i64 (gi t1)), .lit (.int .i64 (gi t2)), .lit (.int .i64 (gi t3)), .lit (.int .i64 (gi t4))] = [t0, t1, t2, t3, t4]
  rw [fit_int h0, fit_int h1, fit_int h2, fit_int h3, fit_int h4]
def enc_l_Pond (x : List Pond) : List (TreeOf TI Car) := [.sl ⟨.t_Pond, x⟩]
def dec_l_Pond (ts : List (TreeOf TI Car)) : List Pond := gl (Car := Car) .t_Pond (tx ts 0)
theorem fit_l_Pond (x : List Pond) : fits (shp .l_Pond) (enc_l_Pond x) = true := rfl
theorem ed_l_Pond (ts : List (TreeOf TI Car)) (h : fits (shp .l_Pond) ts = true) : enc_l_Pond (dec_l_Pond ts) = ts := by
  obtain ⟨t0, ts, rfl, h0, h⟩ := fits_cons h
  obtain rfl := fits_nil h
  show [.sl ⟨.t_Pond, gl .t_Pond t0⟩] = [t0]
  rw [fit_sl h0]
def enc_t_Pump (x : Pump) : List (TreeOf TI Car) := [.lit (.int .i64 x.ID), .lit (.int .i64 x.Flow), .lit (.int .i64 x.Power)]
def dec_t_Pump (ts : List (TreeOf TI Car)) : Pump := ⟨gi (tx ts 0), gi (tx ts 1), gi (tx ts 2)⟩
theorem fit_t_Pump (x : Pump) : fits (shp .t_Pump) (enc_t_Pump x) = true := rfl
theorem ed_t_Pump (ts : List (TreeOf TI Car)) (h : fits (shp .t_Pump) ts = true) : enc_t_Pump (dec_t_Pump ts) = ts := by
  obtain ⟨t0, ts, rfl, h0, h⟩ := fits_cons h
  obtain ⟨t1, ts, rfl, h1, h⟩ := fits_cons h
  obtain ⟨t2, ts, rfl, h2, h⟩ := fits_cons h
  obtain rfl := fits_nil h
  show [.lit (.int .i64 (gi t0)), .lit (.int .i64 (gi t1)), .lit (.int .i64 (gi t2))] = [t0, t1, t2]
  rw [fit_int h0, fit_int h1, fit_int h2]
def enc_l_Pump (x : List Pump) : List (TreeOf TI Car) := [.sl ⟨.t_Pump, x⟩]
def dec_l_Pump (ts : List (TreeOf TI Car)) : List Pump := gl (Car := Car) .t_Pump (tx ts 0)
theorem fit_l_Pump (x : List Pump) : fits (shp .l_Pump) (enc_l_Pump x) = true := rfl
theorem ed_l_Pump (ts : List (TreeOf TI Car)) (h : fits (shp .l_Pump) ts = true) : enc_l_Pump (dec_l_Pump ts) = ts := by
  obtain ⟨t0, ts, rfl, h0, h⟩ := fits_cons h
  obtain rfl := fits_nil h
  show [.sl ⟨.t_Pump, gl .t_Pump t0⟩] = [t0]
  rw [fit_sl h0]
def enc_t_Pipe (x : Pipe) : List (TreeOf TI Car) := [.lit (.int .i64 x.ID), .lit (.int .i64 x.From), .lit (.int .i64 x.To), .lit (.int .i64 x.Loss), .lit (.int .i64 x.Rise)]
def dec_t_Pipe (ts : List (TreeOf TI Car)) : Pipe := ⟨gi (tx ts 0), gi (tx ts 1), gi (tx ts 2), gi (tx ts 3), gi (tx ts 4)⟩
theorem fit_t_Pipe (x : Pipe) : fits (shp .t_Pipe) (enc_t_Pipe x) = true := rfl
theorem ed_t_Pipe (ts : List (TreeOf TI Car)) (h : fits (shp .t_Pipe) ts = true) : enc_t_Pipe (dec_t_Pipe ts) = ts := by
  obtain ⟨t0, ts, rfl, h0, h⟩ := fits_cons h
  obtain ⟨t1, ts, rfl, h1, h⟩ := fits_cons h
  obtain ⟨t2, ts, rfl, h2, h⟩ := fits_cons h
  obtain ⟨t3, ts, rfl, h3, h⟩ := fits_cons h
  obtain ⟨t4, ts, rfl, h4, h⟩ := fits_cons h
  obtain rfl := fits_nil h
  show [.lit (.int .i64 (gi t0)), .lit (.int .i64 (gi t1)), .lit (.int .i64 (gi t2)), .lit (.int .i64 (gi t3)), .lit (.int .i64 (gi t4))] = [t0, t1, t2, t3, t4]
  rw [fit_int h0, fit_int h1, fit_int h2, fit_int h3, fit_int h4]
def enc_l_Pipe (x : List Pipe) : List (TreeOf TI Car) := [.sl ⟨.t_Pipe, x⟩]
def dec_l_Pipe (ts : List (TreeOf TI Car)) : List Pipe := gl (Car := Car) .t_Pipe (tx ts 0)
theorem fit_l_Pipe (x : List Pipe) : fits (shp .l_Pipe) (enc_l_Pipe x) = true := rfl
theorem ed_l_Pipe (ts : List (TreeOf TI Car)) (h : fits (shp .l_Pipe) ts = true) : enc_l_Pipe (dec_l_Pipe ts) = ts := by
  obtain ⟨t0, ts, rfl, h0, h⟩ := fits_cons h
  obtain rfl := fits_nil h
  show [.sl ⟨.t_Pipe, gl .t_Pipe t0⟩] = [t0]
  rw [fit_sl h0]
def enc_t_Point (x : Point) : List (TreeOf TI Car) := [.lit (.int .i64 x.X), .lit (.int .i64 x.Y)]
def dec_t_Point (ts : List (TreeOf TI Car)) : Point := ⟨gi (tx ts 0), gi (tx ts 1)⟩
theorem fit_t_Point (x : Point) : fits (shp .t_Point) (enc_t_Point x) = true := rfl
theorem ed_t_Point (ts : List (TreeOf TI Car)) (h : fits (shp .t_Point) ts = true) : enc_t_Point (dec_t_Point ts) = ts := by
  obtain ⟨t0, ts, rfl, h0, h⟩ := fits_cons h
  obtain ⟨t1, ts, rfl, h1, h⟩ := fits_cons h
  obtain rfl := fits_nil h
  show [.lit (.int .i64 (gi t0)), .lit (.int .i64 (gi t1))] = [t0, t1]
  rw [fit_int h0, fit_int h1]
def enc_l_Point (x : List Point) : List (TreeOf TI Car) := [.sl ⟨.t_Point, x⟩]
def dec_l_Point (ts : List (TreeOf TI Car)) : List Point := gl (Car := Car) .t_Point (tx ts 0)
theorem fit_l_Point (x : List Point) : fits (shp .l_Point) (enc_l_Point x) = true := rfl
theorem ed_l_Point (ts : List (TreeOf TI Car)) (h : fits (shp .l_Point) ts = true) : enc_l_Point (dec_l_Point ts) = ts := by
  obtain ⟨t0, ts, rfl, h0, h⟩ := fits_cons h
  obtain rfl := fits_nil h
  show [.sl ⟨.t_Point, gl .t_Point t0⟩] = [t0]
  rw [fit_sl h0]
def enc_t_GunKind (x : GunKind) : List (TreeOf TI Car) := [.lit (.int .i64 x.ID), .sl ⟨.t_Point, x.Output⟩, .lit (.int .i64 x.Power), .lit (.int .i64 x.Pressure)]
def dec_t_GunKind (ts : List (TreeOf TI Car)) : GunKind := ⟨gi (tx ts 0), gl (Car := Car) .t_Point (tx ts 1), gi (tx ts 2), gi (tx ts 3)⟩
theorem fit_t_GunKind (x : GunKind) : fits (shp .t_GunKind) (enc_t_GunKind x) = true := rfl
theorem ed_t_GunKind (ts : List (TreeOf TI Car)) (h : fits (shp .t_GunKind) ts = true) : enc_t_GunKind (dec_t_GunKind ts) = ts := by
  obtain ⟨t0, ts, rfl, h0, h⟩ := fits_cons h
  obtain ⟨t1, ts, rfl, h1, h⟩ := fits_cons h
  obtain ⟨t2, ts, rfl, h2, h⟩ := fits_cons h
  obtain ⟨t3, ts, rfl, h3, h⟩ := fits_cons h
  obtain rfl := fits_nil h
  show [.lit (.int .i64 (gi t0)), .sl ⟨.t_Point, gl .t_Point t1⟩, .lit (.int .i64 (gi t2)), .lit (.int .i64 (gi t3))] = [t0, t1, t2, t3]
  rw [fit_int h0, fit_sl h1, fit_int h2, fit_int h3]
def enc_l_GunKind (x : List GunKind) : List (TreeOf TI Car) := [.sl ⟨.t_GunKind, x⟩]
def dec_l_GunKind (ts : List (TreeOf TI Car)) : List GunKind := gl (Car := Car) .t_GunKind (tx ts 0)
theorem fit_l_GunKind (x : List GunKind) : fits (shp .l_GunKind) (enc_l_GunKind x) = true := rfl
theorem ed_l_GunKind (ts : List (TreeOf TI Car)) (h : fits (shp .l_GunKind) ts = true) : enc_l_GunKind (dec_l_GunKind ts) = ts := by
  obtain ⟨t0, ts, rfl, h0, h⟩ := fits_cons h
  obtain rfl := fits_nil h
  show [.sl ⟨.t_GunKind, gl .t_GunKind t0⟩] = [t0]
  rw [fit_sl h0]
def enc_t_Gun (x : Gun) : List (TreeOf TI Car) := [.lit (.int .i64 x.ID), .lit (.int .i64 x.Node), .lit (.int .i64 x.Run), .lit (.int .i64 x.Kind), .lit (.int .i64 x.State), .lit (.int .i64 x.Since), .lit (.int .i64 x.On), .lit (.int .i64 x.Off)]
def dec_t_Gun (ts : List (TreeOf TI Car)) : Gun := ⟨gi (tx ts 0), gi (tx ts 1), gi (tx ts 2), gi (tx ts 3), gi (tx ts 4), gi (tx ts 5), gi (tx ts 6), gi (tx ts 7)⟩
theorem fit_t_Gun (x : Gun) : fits (shp .t_Gun) (enc_t_Gun x) = true := rfl
theorem ed_t_Gun (ts : List (TreeOf TI Car)) (h : fits (shp .t_Gun) ts = true) : enc_t_Gun (dec_t_Gun ts) = ts := by
  obtain ⟨t0, ts, rfl, h0, h⟩ := fits_cons h
  obtain ⟨t1, ts, rfl, h1, h⟩ := fits_cons h
  obtain ⟨t2, ts, rfl, h2, h⟩ := fits_cons h
  obtain ⟨t3, ts, rfl, h3, h⟩ := fits_cons h
  obtain ⟨t4, ts, rfl, h4, h⟩ := fits_cons h
  obtain ⟨t5, ts, rfl, h5, h⟩ := fits_cons h
  obtain ⟨t6, ts, rfl, h6, h⟩ := fits_cons h
  obtain ⟨t7, ts, rfl, h7, h⟩ := fits_cons h
  obtain rfl := fits_nil h
  show [.lit (.int .i64 (gi t0)), .lit (.int .i64 (gi t1)), .lit (.int .i64 (gi t2)), .lit (.int .i64 (gi t3)), .lit (.int .i64 (gi t4)), .lit (.int .i64 (gi t5)), .lit (.int .i64 (gi t6)), .lit (.int .i64 (gi t7))] = [t0, t1, t2, t3, t4, t5, t6, t7]
  rw [fit_int h0, fit_int h1, fit_int h2, fit_int h3, fit_int h4, fit_int h5, fit_int h6, fit_int h7]
def enc_l_Gun (x : List Gun) : List (TreeOf TI Car) := [.sl ⟨.t_Gun, x⟩]
def dec_l_Gun (ts : List (TreeOf TI Car)) : List Gun := gl (Car := Car) .t_Gun (tx ts 0)
theorem fit_l_Gun (x : List Gun) : fits (shp .l_Gun) (enc_l_Gun x) = true := rfl
theorem ed_l_Gun (ts : List (TreeOf TI Car)) (h : fits (shp .l_Gun) ts = true) : enc_l_Gun (dec_l_Gun ts) = ts := by
  obtain ⟨t0, ts, rfl, h0, h⟩ := fits_cons h
  obtain rfl := fits_nil h
  show [.sl ⟨.t_Gun, gl .t_Gun t0⟩] = [t0]
  rw [fit_sl h0]
def enc_t_Pack (x : Pack) : List (TreeOf TI Car) := [.lit (.int .i64 x.Natural), .lit (.int .i64 x.Machine), .lit (.int .i64 x.Density)]
def dec_t_Pack (ts : List (TreeOf TI Car)) : Pack := ⟨gi (tx ts 0), gi (tx ts 1), gi (tx ts 2)⟩
theorem fit_t_Pack (x : Pack) : fits (shp .t_Pack) (enc_t_Pack x) = true := rfl
theorem ed_t_Pack (ts : List (TreeOf TI Car)) (h : fits (shp .t_Pack) ts = true) : enc_t_Pack (dec_t_Pack ts) = ts := by
  obtain ⟨t0, ts, rfl, h0, h⟩ := fits_cons h
  obtain ⟨t1, ts, rfl, h1, h⟩ := fits_cons h
  obtain ⟨t2, ts, rfl, h2, h⟩ := fits_cons h
  obtain rfl := fits_nil h
  show [.lit (.int .i64 (gi t0)), .lit (.int .i64 (gi t1)), .lit (.int .i64 (gi t2))] = [t0, t1, t2]
  rw [fit_int h0, fit_int h1, fit_int h2]
def enc_t_RunPack (x : RunPack) : List (TreeOf TI Car) := [.lit (.int .i64 x.Run), .lit (.int .i64 x.Area), .lit (.int .i64 x.Pack.Natural), .lit (.int .i64 x.Pack.Machine), .lit (.int .i64 x.Pack.Density)]
def dec_t_RunPack (ts : List (TreeOf TI Car)) : RunPack := ⟨gi (tx ts 0), gi (tx ts 1), ⟨gi (tx ts 2), gi (tx ts 3), gi (tx ts 4)⟩⟩
theorem fit_t_RunPack (x : RunPack) : fits (shp .t_RunPack) (enc_t_RunPack x) = true := rfl
theorem ed_t_RunPack (ts : List (TreeOf TI Car)) (h : fits (shp .t_RunPack) ts = true) : enc_t_RunPack (dec_t_RunPack ts) = ts := by
  obtain ⟨t0, ts, rfl, h0, h⟩ := fits_cons h
  obtain ⟨t1, ts, rfl, h1, h⟩ := fits_cons h
  obtain ⟨t2, ts, rfl, h2, h⟩ := fits_cons h
  obtain ⟨t3, ts, rfl, h3, h⟩ := fits_cons h
  obtain ⟨t4, ts, rfl, h4, h⟩ := fits_cons h
  obtain rfl := fits_nil h
  show [.lit (.int .i64 (gi t0)), .lit (.int .i64 (gi t1)), .lit (.int .i64 (gi t2)), .lit (.int .i64 (gi t3)), .lit (.int .i64 (gi t4))] = [t0, t1, t2, t3, t4]
  rw [fit_int h0, fit_int h1, fit_int h2, fit_int h3, fit_int h4]
def enc_l_RunPack (x : List RunPack) : List (TreeOf TI Car) := [.sl ⟨.t_RunPack, x⟩]
def dec_l_RunPack (ts : List (TreeOf TI Car)) : List RunPack := gl (Car := Car) .t_RunPack (tx ts 0)
theorem fit_l_RunPack (x : List RunPack) : fits (shp .l_RunPack) (enc_l_RunPack x) = true := rfl
theorem ed_l_RunPack (ts : List (TreeOf TI Car)) (h : fits (shp .l_RunPack) ts = true) : enc_l_RunPack (dec_l_RunPack ts) = ts := by
  obtain ⟨t0, ts, rfl, h0, h⟩ := fits_cons h
  obtain rfl := fits_nil h
  show [.sl ⟨.t_RunPack, gl .t_RunPack t0⟩] = [t0]
  rw [fit_sl h0]
def enc_t_SnowSystem (x : SnowSystem) : List (TreeOf TI Car) := [.sl ⟨.t_Pond, x.Ponds⟩, .sl ⟨.t_Pump, x.Pumps⟩, .sl ⟨.t_Pipe, x.Pipes⟩, .sl ⟨.t_GunKind, x.Kinds⟩, .sl ⟨.t_Gun, x.Guns⟩, .sl ⟨.t_RunPack, x.Packs⟩, .lit (.int .i64 x.Pressure), .lit (.int .i64 x.Limit), .lit (.int .i64 x.Time), .lit (.int .i64 x.Water), .lit (.int .i64 x.Lost), .lit (.int .i64 x.Energy), .lit (.int .i64 x.Inflow)]
def dec_t_SnowSystem (ts : List (TreeOf TI Car)) : SnowSystem := ⟨gl (Car := Car) .t_Pond (tx ts 0), gl (Car := Car) .t_Pump (tx ts 1), gl (Car := Car) .t_Pipe (tx ts 2), gl (Car := Car) .t_GunKind (tx ts 3), gl (Car := Car) .t_Gun (tx ts 4), gl (Car := Car) .t_RunPack (tx ts 5), gi (tx ts 6), gi (tx ts 7), gi (tx ts 8), gi (tx ts 9), gi (tx ts 10), gi (tx ts 11), gi (tx ts 12)⟩
theorem fit_t_SnowSystem (x : SnowSystem) : fits (shp .t_SnowSystem) (enc_t_SnowSystem x) = true := rfl
theorem ed_t_SnowSystem (ts : List (TreeOf TI Car)) (h : fits (shp .t_SnowSystem) ts = true) : enc_t_SnowSystem (dec_t_SnowSystem ts) = ts := by
  obtain ⟨t0, ts, rfl, h0, h⟩ := fits_cons h
  obtain ⟨t1, ts, rfl, h1, h⟩ := fits_cons h
  obtain ⟨t2, ts, rfl, h2, h⟩ := fits_cons h
  obtain ⟨t3, ts, rfl, h3, h⟩ := fits_cons h
  obtain ⟨t4, ts, rfl, h4, h⟩ := fits_cons h
  obtain ⟨t5, ts, rfl, h5, h⟩ := fits_cons h
  obtain ⟨t6, ts, rfl, h6, h⟩ := fits_cons h
  obtain ⟨t7, ts, rfl, h7, h⟩ := fits_cons h
  obtain ⟨t8, ts, rfl, h8, h⟩ := fits_cons h
  obtain ⟨t9, ts, rfl, h9, h⟩ := fits_cons h
  obtain ⟨t10, ts, rfl, h10, h⟩ := fits_cons h
  obtain ⟨t11, ts, rfl, h11, h⟩ := fits_cons h
  obtain ⟨t12, ts, rfl, h12, h⟩ := fits_cons h
  obtain rfl := fits_nil h
  show [.sl ⟨.t_Pond, gl .t_Pond t0⟩, .sl ⟨.t_Pump, gl .t_Pump t1⟩, .sl ⟨.t_Pipe, gl .t_Pipe t2⟩, .sl ⟨.t_GunKind, gl .t_GunKind t3⟩, .sl ⟨.t_Gun, gl .t_Gun t4⟩, .sl ⟨.t_RunPack, gl .t_RunPack t5⟩, .lit (.int .i64 (gi t6)), .lit (.int .i64 (gi t7)), .lit (.int .i64 (gi t8)), .lit (.int .i64 (gi t9)), .lit (.int .i64 (gi t10)), .lit (.int .i64 (gi t11)), .lit (.int .i64 (gi t12))] = [t0, t1, t2, t3, t4, t5, t6, t7, t8, t9, t10, t11, t12]
  rw [fit_sl h0, fit_sl h1, fit_sl h2, fit_sl h3, fit_sl h4, fit_sl h5, fit_int h6, fit_int h7, fit_int h8, fit_int h9, fit_int h10, fit_int h11, fit_int h12]
def enc_t_bool (x : Bool) : List (TreeOf TI Car) := [.lit (.bool x)]
def dec_t_bool (ts : List (TreeOf TI Car)) : Bool := gb (tx ts 0)
theorem fit_t_bool (x : Bool) : fits (shp .t_bool) (enc_t_bool x) = true := rfl
theorem ed_t_bool (ts : List (TreeOf TI Car)) (h : fits (shp .t_bool) ts = true) : enc_t_bool (dec_t_bool ts) = ts := by
  obtain ⟨t0, ts, rfl, h0, h⟩ := fits_cons h
  obtain rfl := fits_nil h
  show [.lit (.bool (gb t0))] = [t0]
  rw [fit_bool h0]
def enc_t_Op (x : Op) : List (TreeOf TI Car) := [.lit (.int .i64 x.Kind), .lit (.int .i64 x.N), .lit (.int .i64 x.Wet)]
def dec_t_Op (ts : List (TreeOf TI Car)) : Op := ⟨gi (tx ts 0), gi (tx ts 1), gi (tx ts 2)⟩
theorem fit_t_Op (x : Op) : fits (shp .t_Op) (enc_t_Op x) = true := rfl
theorem ed_t_Op (ts : List (TreeOf TI Car)) (h : fits (shp .t_Op) ts = true) : enc_t_Op (dec_t_Op ts) = ts := by
  obtain ⟨t0, ts, rfl, h0, h⟩ := fits_cons h
  obtain ⟨t1, ts, rfl, h1, h⟩ := fits_cons h
  obtain ⟨t2, ts, rfl, h2, h⟩ := fits_cons h
  obtain rfl := fits_nil h
  show [.lit (.int .i64 (gi t0)), .lit (.int .i64 (gi t1)), .lit (.int .i64 (gi t2))] = [t0, t1, t2]
  rw [fit_int h0, fit_int h1, fit_int h2]
def enc_l_Op (x : List Op) : List (TreeOf TI Car) := [.sl ⟨.t_Op, x⟩]
def dec_l_Op (ts : List (TreeOf TI Car)) : List Op := gl (Car := Car) .t_Op (tx ts 0)
theorem fit_l_Op (x : List Op) : fits (shp .l_Op) (enc_l_Op x) = true := rfl
theorem ed_l_Op (ts : List (TreeOf TI Car)) (h : fits (shp .l_Op) ts = true) : enc_l_Op (dec_l_Op ts) = ts := by
  obtain ⟨t0, ts, rfl, h0, h⟩ := fits_cons h
  obtain rfl := fits_nil h
  show [.sl ⟨.t_Op, gl .t_Op t0⟩] = [t0]
  rw [fit_sl h0]
def enc_t_Draw (x : Draw) : List (TreeOf TI Car) := [.lit (.int .i64 x.Node), .lit (.int .i64 x.Flow)]
def dec_t_Draw (ts : List (TreeOf TI Car)) : Draw := ⟨gi (tx ts 0), gi (tx ts 1)⟩
theorem fit_t_Draw (x : Draw) : fits (shp .t_Draw) (enc_t_Draw x) = true := rfl
theorem ed_t_Draw (ts : List (TreeOf TI Car)) (h : fits (shp .t_Draw) ts = true) : enc_t_Draw (dec_t_Draw ts) = ts := by
  obtain ⟨t0, ts, rfl, h0, h⟩ := fits_cons h
  obtain ⟨t1, ts, rfl, h1, h⟩ := fits_cons h
  obtain rfl := fits_nil h
  show [.lit (.int .i64 (gi t0)), .lit (.int .i64 (gi t1))] = [t0, t1]
  rw [fit_int h0, fit_int h1]
def enc_l_Draw (x : List Draw) : List (TreeOf TI Car) := [.sl ⟨.t_Draw, x⟩]
def dec_l_Draw (ts : List (TreeOf TI Car)) : List Draw := gl (Car := Car) .t_Draw (tx ts 0)
theorem fit_l_Draw (x : List Draw) : fits (shp .l_Draw) (enc_l_Draw x) = true := rfl
theorem ed_l_Draw (ts : List (TreeOf TI Car)) (h : fits (shp .l_Draw) ts = true) : enc_l_Draw (dec_l_Draw ts) = ts := by
  obtain ⟨t0, ts, rfl, h0, h⟩ := fits_cons h
  obtain rfl := fits_nil h
  show [.sl ⟨.t_Draw, gl .t_Draw t0⟩] = [t0]
  rw [fit_sl h0]
def enc_l_i64 (x : List Int) : List (TreeOf TI Car) := [.sl ⟨.t_i64, x⟩]
def dec_l_i64 (ts : List (TreeOf TI Car)) : List Int := gl (Car := Car) .t_i64 (tx ts 0)
theorem fit_l_i64 (x : List Int) : fits (shp .l_i64) (enc_l_i64 x) = true := rfl
theorem ed_l_i64 (ts : List (TreeOf TI Car)) (h : fits (shp .l_i64) ts = true) : enc_l_i64 (dec_l_i64 ts) = ts := by
  obtain ⟨t0, ts, rfl, h0, h⟩ := fits_cons h
  obtain rfl := fits_nil h
  show [.sl ⟨.t_i64, gl .t_i64 t0⟩] = [t0]
  rw [fit_sl h0]
def enc_t_moment (x : moment) : List (TreeOf TI Car) := [.lit (.int .i64 x.t)]
def dec_t_moment (ts : List (TreeOf TI Car)) : moment := ⟨gi (tx ts 0)⟩
theorem fit_t_moment (x : moment) : fits (shp .t_moment) (enc_t_moment x) = true := rfl
theorem ed_t_moment (ts : List (TreeOf TI Car)) (h : fits (shp .t_moment) ts = true) : enc_t_moment (dec_t_moment ts) = ts := by
  obtain ⟨t0, ts, rfl, h0, h⟩ := fits_cons h
  obtain rfl := fits_nil h
  show [.lit (.int .i64 (gi t0))] = [t0]
  rw [fit_int h0]
def enc_t_Arr3_143 (x : Arr3_143) : List (TreeOf TI Car) := [.lit (.int .i64 x.a0), .lit (.int .i64 x.a1), .lit (.int .i64 x.a2)]
def dec_t_Arr3_143 (ts : List (TreeOf TI Car)) : Arr3_143 := ⟨gi (tx ts 0), gi (tx ts 1), gi (tx ts 2)⟩
theorem fit_t_Arr3_143 (x : Arr3_143) : fits (shp .t_Arr3_143) (enc_t_Arr3_143 x) = true := rfl
theorem ed_t_Arr3_143 (ts : List (TreeOf TI Car)) (h : fits (shp .t_Arr3_143) ts = true) : enc_t_Arr3_143 (dec_t_Arr3_143 ts) = ts := by
  obtain ⟨t0, ts, rfl, h0, h⟩ := fits_cons h
  obtain ⟨t1, ts, rfl, h1, h⟩ := fits_cons h
  obtain ⟨t2, ts, rfl, h2, h⟩ := fits_cons h
  obtain rfl := fits_nil h
  show [.lit (.int .i64 (gi t0)), .lit (.int .i64 (gi t1)), .lit (.int .i64 (gi t2))] = [t0, t1, t2]
  rw [fit_int h0, fit_int h1, fit_int h2]
def enc_t_Arr2_144 (x : Arr2_144) : List (TreeOf TI Car) := [.lit (.int .i64 x.a0), .lit (.int .i64 x.a1)]
def dec_t_Arr2_144 (ts : List (TreeOf TI Car)) : Arr2_144 := ⟨gi (tx ts 0), gi (tx ts 1)⟩
theorem fit_t_Arr2_144 (x : Arr2_144) : fits (shp .t_Arr2_144) (enc_t_Arr2_144 x) = true := rfl
theorem ed_t_Arr2_144 (ts : List (TreeOf TI Car)) (h : fits (shp .t_Arr2_144) ts = true) : enc_t_Arr2_144 (dec_t_Arr2_144 ts) = ts := by
  obtain ⟨t0, ts, rfl, h0, h⟩ := fits_cons h
  obtain ⟨t1, ts, rfl, h1, h⟩ := fits_cons h
  obtain rfl := fits_nil h
  show [.lit (.int .i64 (gi t0)), .lit (.int .i64 (gi t1))] = [t0, t1]
  rw [fit_int h0, fit_int h1]
def enc_t_str (x : ByteArray) : List (TreeOf TI Car) := [.lit (.string x)]
def dec_t_str (ts : List (TreeOf TI Car)) : ByteArray := gs (tx ts 0)
theorem fit_t_str (x : ByteArray) : fits (shp .t_str) (enc_t_str x) = true := rfl
theorem ed_t_str (ts : List (TreeOf TI Car)) (h : fits (shp .t_str) ts = true) : enc_t_str (dec_t_str ts) = ts := by
  obtain ⟨t0, ts, rfl, h0, h⟩ := fits_cons h
  obtain rfl := fits_nil h
  show [.lit (.string (gs t0))] = [t0]
  rw [fit_str h0]
def enc_t_u64 (x : Int) : List (TreeOf TI Car) := [.lit (.int .u64 x)]
def dec_t_u64 (ts : List (TreeOf TI Car)) : Int := gi (tx ts 0)
theorem fit_t_u64 (x : Int) : fits (shp .t_u64) (enc_t_u64 x) = true := rfl
theorem ed_t_u64 (ts : List (TreeOf TI Car)) (h : fits (shp .t_u64) ts = true) : enc_t_u64 (dec_t_u64 ts) = ts := by
  obtain ⟨t0, ts, rfl, h0, h⟩ := fits_cons h
  obtain rfl := fits_nil h
  show [.lit (.int .u64 (gi t0))] = [t0]
  rw [fit_int h0]
def enc : (e : TI) → Car e → List (TreeOf TI Car)
  | .t_i64 => enc_t_i64
  | .t_Pond => enc_t_Pond
  | .l_Pond => enc_l_Pond
  | .t_Pump => enc_t_Pump
  | .l_Pump => enc_l_Pump
  | .t_Pipe => enc_t_Pipe
  | .l_Pipe => enc_l_Pipe
  | .t_Point => enc_t_Point
  | .l_Point => enc_l_Point
  | .t_GunKind => enc_t_GunKind
  | .l_GunKind => enc_l_GunKind
  | .t_Gun => enc_t_Gun
  | .l_Gun => enc_l_Gun
  | .t_Pack => enc_t_Pack
  | .t_RunPack => enc_t_RunPack
  | .l_RunPack => enc_l_RunPack
  | .t_SnowSystem => enc_t_SnowSystem
  | .t_bool => enc_t_bool
  | .t_Op => enc_t_Op
  | .l_Op => enc_l_Op
  | .t_Draw => enc_t_Draw
  | .l_Draw => enc_l_Draw
  | .l_i64 => enc_l_i64
  | .t_moment => enc_t_moment
  | .t_Arr3_143 => enc_t_Arr3_143
  | .t_Arr2_144 => enc_t_Arr2_144
  | .t_str => enc_t_str
  | .t_u64 => enc_t_u64
def dec : (e : TI) → List (TreeOf TI Car) → Car e
  | .t_i64 => dec_t_i64
  | .t_Pond => dec_t_Pond
  | .l_Pond => dec_l_Pond
  | .t_Pump => dec_t_Pump
  | .l_Pump => dec_l_Pump
  | .t_Pipe => dec_t_Pipe
  | .l_Pipe => dec_l_Pipe
  | .t_Point => dec_t_Point
  | .l_Point => dec_l_Point
  | .t_GunKind => dec_t_GunKind
  | .l_GunKind => dec_l_GunKind
  | .t_Gun => dec_t_Gun
  | .l_Gun => dec_l_Gun
  | .t_Pack => dec_t_Pack
  | .t_RunPack => dec_t_RunPack
  | .l_RunPack => dec_l_RunPack
  | .t_SnowSystem => dec_t_SnowSystem
  | .t_bool => dec_t_bool
  | .t_Op => dec_t_Op
  | .l_Op => dec_l_Op
  | .t_Draw => dec_t_Draw
  | .l_Draw => dec_l_Draw
  | .l_i64 => dec_l_i64
  | .t_moment => dec_t_moment
  | .t_Arr3_143 => dec_t_Arr3_143
  | .t_Arr2_144 => dec_t_Arr2_144
  | .t_str => dec_t_str
  | .t_u64 => dec_t_u64
def isAg : TI → Bool
  | .t_i64 => false
  | .t_Pond => true
  | .l_Pond => false
  | .t_Pump => true
  | .l_Pump => false
  | .t_Pipe => true
  | .l_Pipe => false
  | .t_Point => true
  | .l_Point => false
  | .t_GunKind => true
  | .l_GunKind => false
  | .t_Gun => true
  | .l_Gun => false
  | .t_Pack => true
  | .t_RunPack => true
  | .l_RunPack => false
  | .t_SnowSystem => true
  | .t_bool => false
  | .t_Op => true
  | .l_Op => false
  | .t_Draw => true
  | .l_Draw => false
  | .l_i64 => false
  | .t_moment => true
  | .t_Arr3_143 => true
  | .t_Arr2_144 => true
  | .t_str => false
  | .t_u64 => false
def ofT : TypeId → Option TI
  | 3 => some .t_i64
  | 4 => some .t_bool
  | 9 => some .t_str
  | 22 => some .l_Pond
  | 23 => some .l_Pump
  | 24 => some .l_Pipe
  | 25 => some .l_GunKind
  | 26 => some .l_Gun
  | 27 => some .l_RunPack
  | 29 => some .t_SnowSystem
  | 32 => some .t_i64
  | 38 => some .l_Op
  | 42 => some .t_Op
  | 49 => some .t_Pond
  | 51 => some .t_Pack
  | 53 => some .t_RunPack
  | 54 => some .l_Point
  | 56 => some .t_GunKind
  | 63 => some .t_Gun
  | 68 => some .t_Pipe
  | 74 => some .l_Draw
  | 77 => some .t_Draw
  | 78 => some .l_i64
  | 95 => some .t_Pump
  | 99 => some .t_Point
  | 132 => some .t_moment
  | 143 => some .t_Arr3_143
  | 144 => some .t_Arr2_144
  | 164 => some .t_u64
  | _ => none
instance sig : Sig where
  TI := TI
  deq := inferInstance
  Car := Car
  dft := dft
  shp := shp
  isAgg := isAg
  enc := enc
  dec := dec
  ofId := ofT
  enc_fits := fun e => match e with
    | .t_i64 => fit_t_i64
    | .t_Pond => fit_t_Pond
    | .l_Pond => fit_l_Pond
    | .t_Pump => fit_t_Pump
    | .l_Pump => fit_l_Pump
    | .t_Pipe => fit_t_Pipe
    | .l_Pipe => fit_l_Pipe
    | .t_Point => fit_t_Point
    | .l_Point => fit_l_Point
    | .t_GunKind => fit_t_GunKind
    | .l_GunKind => fit_l_GunKind
    | .t_Gun => fit_t_Gun
    | .l_Gun => fit_l_Gun
    | .t_Pack => fit_t_Pack
    | .t_RunPack => fit_t_RunPack
    | .l_RunPack => fit_l_RunPack
    | .t_SnowSystem => fit_t_SnowSystem
    | .t_bool => fit_t_bool
    | .t_Op => fit_t_Op
    | .l_Op => fit_l_Op
    | .t_Draw => fit_t_Draw
    | .l_Draw => fit_l_Draw
    | .l_i64 => fit_l_i64
    | .t_moment => fit_t_moment
    | .t_Arr3_143 => fit_t_Arr3_143
    | .t_Arr2_144 => fit_t_Arr2_144
    | .t_str => fit_t_str
    | .t_u64 => fit_t_u64
  enc_dec := fun e => match e with
    | .t_i64 => ed_t_i64
    | .t_Pond => ed_t_Pond
    | .l_Pond => ed_l_Pond
    | .t_Pump => ed_t_Pump
    | .l_Pump => ed_l_Pump
    | .t_Pipe => ed_t_Pipe
    | .l_Pipe => ed_l_Pipe
    | .t_Point => ed_t_Point
    | .l_Point => ed_l_Point
    | .t_GunKind => ed_t_GunKind
    | .l_GunKind => ed_l_GunKind
    | .t_Gun => ed_t_Gun
    | .l_Gun => ed_l_Gun
    | .t_Pack => ed_t_Pack
    | .t_RunPack => ed_t_RunPack
    | .l_RunPack => ed_l_RunPack
    | .t_SnowSystem => ed_t_SnowSystem
    | .t_bool => ed_t_bool
    | .t_Op => ed_t_Op
    | .l_Op => ed_l_Op
    | .t_Draw => ed_t_Draw
    | .l_Draw => ed_l_Draw
    | .l_i64 => ed_l_i64
    | .t_moment => ed_t_moment
    | .t_Arr3_143 => ed_t_Arr3_143
    | .t_Arr2_144 => ed_t_Arr2_144
    | .t_str => ed_t_str
    | .t_u64 => ed_t_u64
theorem mixed : Tryz.prog.follows .mixedOrders = true := by kernel_rfl
end Go.Proofs.YtkhkblihdabnoaaGreat
