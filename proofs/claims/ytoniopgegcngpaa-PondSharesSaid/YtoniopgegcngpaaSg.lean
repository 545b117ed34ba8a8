/- Written by a program (gen.py): the data types of the program: their values in Lean and their cells. No condition. -/
import Derived.Test.YtoniopgegcngpaaCmn
import Derived.Test.YtoniopgegcngpaaRows
namespace Go.Proofs.Ytoniopgegcngpaa
open Go.Cm Go.Proofs
structure Pond where
  ID : Int
  Volume : Int
  Least : Int
  Most : Int
  Inflow : Int
def z_Pond : Pond := ⟨0, 0, 0, 0, 0⟩
structure Op where
  Fill : Bool
  N : Int
def z_Op : Op := ⟨false, 0⟩
structure Arr2_42 where
  a0 : Int
  a1 : Int
def z_Arr2_42 : Arr2_42 := ⟨0, 0⟩
inductive TI where
  | t_i64
  | t_Pond
  | l_Pond
  | t_bool
  | t_Op
  | l_Op
  | l_i64
  | t_Arr2_42
  | t_u64
def TI.ix : TI → Nat
  | .t_i64 => 0
  | .t_Pond => 1
  | .l_Pond => 2
  | .t_bool => 3
  | .t_Op => 4
  | .l_Op => 5
  | .l_i64 => 6
  | .t_Arr2_42 => 7
  | .t_u64 => 8
def TI.of : Nat → TI
  | 0 => .t_i64
  | 1 => .t_Pond
  | 2 => .l_Pond
  | 3 => .t_bool
  | 4 => .t_Op
  | 5 => .l_Op
  | 6 => .l_i64
  | 7 => .t_Arr2_42
  | 8 => .t_u64
  | _ => .t_i64
theorem TI.of_ix (a : TI) : TI.of a.ix = a := by cases a <;> rfl
instance : DecidableEq TI := fun a b => if h : a.ix = b.ix then .isTrue (by rw [← TI.of_ix a, h, TI.of_ix]) else .isFalse (fun e => h (by rw [e]))
def Car : TI → Type
  | .t_i64 => Int
  | .t_Pond => Pond
  | .l_Pond => List Pond
  | .t_bool => Bool
  | .t_Op => Op
  | .l_Op => List Op
  | .l_i64 => List Int
  | .t_Arr2_42 => Arr2_42
  | .t_u64 => Int
def shp : TI → List (LK TI)
  | .t_i64 => [.int .i64]
  | .t_Pond => [.int .i64, .int .i64, .int .i64, .int .i64, .int .i64]
  | .l_Pond => [.sl .t_Pond]
  | .t_bool => [.bool]
  | .t_Op => [.bool, .int .i64]
  | .l_Op => [.sl .t_Op]
  | .l_i64 => [.sl .t_i64]
  | .t_Arr2_42 => [.int .i64, .int .i64]
  | .t_u64 => [.int .u64]
def dft : (e : TI) → Car e
  | .t_i64 => (0 : Int)
  | .t_Pond => (z_Pond : Pond)
  | .l_Pond => ([] : List Pond)
  | .t_bool => (false : Bool)
  | .t_Op => (z_Op : Op)
  | .l_Op => ([] : List Op)
  | .l_i64 => ([] : List Int)
  | .t_Arr2_42 => (z_Arr2_42 : Arr2_42)
  | .t_u64 => (0 : Int)
def enc_t_i64 (x : Int) : List (TreeOf TI Car) := [.lit (.int .i64 x)]
def dec_t_i64 (ts : List (TreeOf TI Car)) : Int := gi (tx ts 0)
theorem fit_t_i64 (x : Int) : fits (shp .t_i64) (enc_t_i64 x) = true := rfl
theorem ed_t_i64 (ts : List (TreeOf TI Car)) (h : fits (shp .t_i64) ts = true) : enc_t_i64 (dec_t_i64 ts) = ts := by
  obtain ⟨t0, ts, rfl, h0, h⟩ := fits_cons h
  obtain rfl := fits_nil h
  show [.lit (.int .i64 (gi t0))] = [t0]
  rw [fit_int h0]
def enc_t_Pond (x : Pond) : List (TreeOf TI Car) := [.lit (.int .i64 x.ID), .lit (.int .i64 x.Volume), .lit (.int .i64 x.Least), .lit (.int .i64 x.Most), .lit (.int .i64 x.Inflow)]
def dec_t_Pond (ts : List (TreeOf TI Car)) : Pond := ⟨gi (tx ts 0), gi (tx ts 1), gi (tx ts 2), gi (tx ts 3), gi (tx ts 4)⟩
theorem fit_t_Pond (x : Pond) : fits (shp .t_Pond) (enc_t_Pond x) = true := rfl
theorem ed_t_Pond (ts : List (TreeOf TI Car)) (h : fits (shp .t_Pond) ts = true) : enc_t_Pond (dec_t_Pond ts) = ts := by
  obtain ⟨t0, ts, rfl, h0, h⟩ := fits_cons h
  obtain ⟨t1, ts, rfl, h1, h⟩ := fits_cons h
  obtain ⟨t2, ts, rfl, h2, h⟩ := fits_cons h
  obtain ⟨t3, ts, rfl, h3, h⟩ := fits_cons h
  obtain ⟨t4, ts, rfl, h4, h⟩ := fits_cons h
  obtain rfl := fits_nil h
  show [.lit (.int .i64 (gi t0)), .lit (.int .i64 (gi t1)), .lit (.int .i64 (gi t2)), .lit (.int .i64 (gi t3)), .lit (.int .i64 (gi t4))] = [t0, t1, t2, t3, t4]
  rw [fit_int h0, fit_int h1, fit_int h2, fit_int h3, fit_int h4]
def enc_l_Pond (x : List Pond) : List (TreeOf TI Car) := [.sl ⟨.t_Pond, x⟩]
def dec_l_Pond (ts : List (TreeOf TI Car)) : List Pond := gl (Car := Car) .t_Pond (tx ts 0)
theorem fit_l_Pond (x : List Pond) : fits (shp .l_Pond) (enc_l_Pond x) = true := rfl
theorem ed_l_Pond (ts : List (TreeOf TI Car)) (h : fits (shp .l_Pond) ts = true) : enc_l_Pond (dec_l_Pond ts) = ts := by
  obtain ⟨t0, ts, rfl, h0, h⟩ := fits_cons h
  obtain rfl := fits_nil h
  show [.sl ⟨.t_Pond, gl .t_Pond t0⟩] = [t0]
  rw [fit_sl h0]
def enc_t_bool (x : Bool) : List (TreeOf TI Car) := [.lit (.bool x)]
def dec_t_bool (ts : List (TreeOf TI Car)) : Bool := gb (tx ts 0)
theorem fit_t_bool (x : Bool) : fits (shp .t_bool) (enc_t_bool x) = true := rfl
theorem ed_t_bool (ts : List (TreeOf TI Car)) (h : fits (shp .t_bool) ts = true) : enc_t_bool (dec_t_bool ts) = ts := by
  obtain ⟨t0, ts, rfl, h0, h⟩ := fits_cons h
  obtain rfl := fits_nil h
  show [.lit (.bool (gb t0))] = [t0]
  rw [fit_bool h0]
def enc_t_Op (x : Op) : List (TreeOf TI Car) := [.lit (.bool x.Fill), .lit (.int .i64 x.N)]
def dec_t_Op (ts : List (TreeOf TI Car)) : Op := ⟨gb (tx ts 0), gi (tx ts 1)⟩
theorem fit_t_Op (x : Op) : fits (shp .t_Op) (enc_t_Op x) = true := rfl
theorem ed_t_Op (ts : List (TreeOf TI Car)) (h : fits (shp .t_Op) ts = true) : enc_t_Op (dec_t_Op ts) = ts := by
  obtain ⟨t0, ts, rfl, h0, h⟩ := fits_cons h
  obtain ⟨t1, ts, rfl, h1, h⟩ := fits_cons h
  obtain rfl := fits_nil h
  show [.lit (.bool (gb t0)), .lit (.int .i64 (gi t1))] = [t0, t1]
  rw [fit_bool h0, fit_int h1]
def enc_l_Op (x : List Op) : List (TreeOf TI Car) := [.sl ⟨.t_Op, x⟩]
def dec_l_Op (ts : List (TreeOf TI Car)) : List Op := gl (Car := Car) .t_Op (tx ts 0)
theorem fit_l_Op (x : List Op) : fits (shp .l_Op) (enc_l_Op x) = true := rfl
theorem ed_l_Op (ts : List (TreeOf TI Car)) (h : fits (shp .l_Op) ts = true) : enc_l_Op (dec_l_Op ts) = ts := by
  obtain ⟨t0, ts, rfl, h0, h⟩ := fits_cons h
  obtain rfl := fits_nil h
  show [.sl ⟨.t_Op, gl .t_Op t0⟩] = [t0]
  rw [fit_sl h0]
def enc_l_i64 (x : List Int) : List (TreeOf TI Car) := [.sl ⟨.t_i64, x⟩]
def dec_l_i64 (ts : List (TreeOf TI Car)) : List Int := gl (Car := Car) .t_i64 (tx ts 0)
theorem fit_l_i64 (x : List Int) : fits (shp .l_i64) (enc_l_i64 x) = true := rfl
theorem ed_l_i64 (ts : List (TreeOf TI Car)) (h : fits (shp .l_i64) ts = true) : enc_l_i64 (dec_l_i64 ts) = ts := by
  obtain ⟨t0, ts, rfl, h0, h⟩ := fits_cons h
  obtain rfl := fits_nil h
  show [.sl ⟨.t_i64, gl .t_i64 t0⟩] = [t0]
  rw [fit_sl h0]
def enc_t_Arr2_42 (x : Arr2_42) : List (TreeOf TI Car) := [.lit (.int .i64 x.a0), .lit (.int .i64 x.a1)]
def dec_t_Arr2_42 (ts : List (TreeOf TI Car)) : Arr2_42 := ⟨gi (tx ts 0), gi (tx ts 1)⟩
theorem fit_t_Arr2_42 (x : Arr2_42) : fits (shp .t_Arr2_42) (enc_t_Arr2_42 x) = true := rfl
theorem ed_t_Arr2_42 (ts : List (TreeOf TI Car)) (h : fits (shp .t_Arr2_42) ts = true) : enc_t_Arr2_42 (dec_t_Arr2_42 ts) = ts := by
  obtain ⟨t0, ts, rfl, h0, h⟩ := fits_cons h
  obtain ⟨t1, ts, rfl, h1, h⟩ := fits_cons h
  obtain rfl := fits_nil h
  show [.lit (.int .i64 (gi t0)), .lit (.int .i64 (gi t1))] = [t0, t1]
  rw [fit_int h0, fit_int h1]
def enc_t_u64 (x : Int) : List (TreeOf TI Car) := [.lit (.int .u64 x)]
def dec_t_u64 (ts : List (TreeOf TI Car)) : Int := gi (tx ts 0)
theorem fit_t_u64 (x : Int) : fits (shp .t_u64) (enc_t_u64 x) = true := rfl
theorem ed_t_u64 (ts : List (TreeOf TI Car)) (h : fits (shp .t_u64) ts = true) : enc_t_u64 (dec_t_u64 ts) = ts := by
  obtain ⟨t0, ts, rfl, h0, h⟩ := fits_cons h
  obtain rfl := fits_nil h
  show [.lit (.int .u64 (gi t0))] = [t0]
  rw [fit_int h0]
def enc : (e : TI) → Car e → List (TreeOf TI Car)
  | .t_i64 => enc_t_i64
  | .t_Pond => enc_t_Pond
  | .l_Pond => enc_l_Pond
  | .t_bool => enc_t_bool
  | .t_Op => enc_t_Op
  | .l_Op => enc_l_Op
  | .l_i64 => enc_l_i64
  | .t_Arr2_42 => enc_t_Arr2_42
  | .t_u64 => enc_t_u64
def dec : (e : TI) → List (TreeOf TI Car) → Car e
  | .t_i64 => dec_t_i64
  | .t_Pond => dec_t_Pond
  | .l_Pond => dec_l_Pond
  | .t_bool => dec_t_bool
  | .t_Op => dec_t_Op
  | .l_Op => dec_l_Op
  | .l_i64 => dec_l_i64
  | .t_Arr2_42 => dec_t_Arr2_42
  | .t_u64 => dec_t_u64
def isAg : TI → Bool
  | .t_i64 => false
  | .t_Pond => true
  | .l_Pond => false
  | .t_bool => false
  | .t_Op => true
  | .l_Op => false
  | .l_i64 => false
  | .t_Arr2_42 => true
  | .t_u64 => false
def ofT : TypeId → Option TI
  | 3 => some .t_i64
  | 4 => some .t_bool
  | 22 => some .l_Pond
  | 24 => some .t_i64
  | 34 => some .l_Op
  | 36 => some .t_Op
  | 38 => some .t_Pond
  | 40 => some .l_i64
  | 42 => some .t_Arr2_42
  | 59 => some .t_u64
  | _ => none
instance sig : Sig where
  TI := TI
  deq := inferInstance
  Car := Car
  dft := dft
  shp := shp
  isAgg := isAg
  enc := enc
  dec := dec
  ofId := ofT
  enc_fits := fun e => match e with
    | .t_i64 => fit_t_i64
    | .t_Pond => fit_t_Pond
    | .l_Pond => fit_l_Pond
    | .t_bool => fit_t_bool
    | .t_Op => fit_t_Op
    | .l_Op => fit_l_Op
    | .l_i64 => fit_l_i64
    | .t_Arr2_42 => fit_t_Arr2_42
    | .t_u64 => fit_t_u64
  enc_dec := fun e => match e with
    | .t_i64 => ed_t_i64
    | .t_Pond => ed_t_Pond
    | .l_Pond => ed_l_Pond
    | .t_bool => ed_t_bool
    | .t_Op => ed_t_Op
    | .l_Op => ed_l_Op
    | .l_i64 => ed_l_i64
    | .t_Arr2_42 => ed_t_Arr2_42
    | .t_u64 => ed_t_u64
theorem mixed : Try.prog.follows .mixedOrders = true := by kernel_rfl
end Go.Proofs.Ytoniopgegcngpaa
