/- Written by a program (gen.py): the data types of the program: their values in Lean and their cells. No condition. -/
import Derived.Test.YtjlhngfmghipoaaCmn
import Derived.Test.YtjlhngfmghipoaaRows
namespace Go.Proofs.Ytjlhngfmghipoaa
open Go.Cm Go.Proofs
structure Motor where
  Max : Int
  Up : Int
  Down : Int
  Stop : Int
def z_Motor : Motor := ⟨0, 0, 0, 0⟩
structure Drive where
  State : Int
  Speed : Int
  Target : Int
  Moved : Int
def z_Drive : Drive := ⟨0, 0, 0, 0⟩
structure Op where
  Kind : Int
  N : Int
def z_Op : Op := ⟨0, 0⟩
inductive TI where
  | t_i64
  | t_Motor
  | t_Drive
  | t_Op
  | l_Op
  | t_bool
def TI.ix : TI → Nat
  | .t_i64 => 0
  | .t_Motor => 1
  | .t_Drive => 2
  | .t_Op => 3
  | .l_Op => 4
  | .t_bool => 5
def TI.of : Nat → TI
  | 0 => .t_i64
  | 1 => .t_Motor
  | 2 => .t_Drive
  | 3 => .t_Op
  | 4 => .l_Op
  | 5 => .t_bool
  | _ => .t_i64
theorem TI.of_ix (a : TI) : TI.of a.ix = a := by cases a <;> rfl
instance : DecidableEq TI := fun a b => if h : a.ix = b.ix then .isTrue (by rw [← TI.of_ix a, h, TI.of_ix]) else .isFalse (fun e => h (by rw [e]))
def Car : TI → Type
  | .t_i64 => Int
  | .t_Motor => Motor
  | .t_Drive => Drive
  | .t_Op => Op
  | .l_Op => List Op
  | .t_bool => Bool
def shp : TI → List (LK TI)
  | .t_i64 => [.int .i64]
  | .t_Motor => [.int .i64, .int .i64, .int .i64, .int .i64]
  | .t_Drive => [.int .i64, .int .i64, .int .i64, .int .i64]
  | .t_Op => [.int .i64, .int .i64]
  | .l_Op => [.sl .t_Op]
  | .t_bool => [.bool]
def dft : (e : TI) → Car e
  | .t_i64 => (0 : Int)
  | .t_Motor => (z_Motor : Motor)
  | .t_Drive => (z_Drive : Drive)
  | .t_Op => (z_Op : Op)
  | .l_Op => ([] : List Op)
  | .t_bool => (false : Bool)
def enc_t_i64 (x : Int) : List (TreeOf TI Car) := [.lit (.int .i64 x)]
def dec_t_i64 (ts : List (TreeOf TI Car)) : Int := gi (tx ts 0)
theorem fit_t_i64 (x : Int) : fits (shp .t_i64) (enc_t_i64 x) = true := rfl
theorem ed_t_i64 (ts : List (TreeOf TI Car)) (h : fits (shp .t_i64) ts = true) : enc_t_i64 (dec_t_i64 ts) = ts := by
  obtain ⟨t0, ts, rfl, h0, h⟩ := fits_cons h
  obtain rfl := fits_nil h
  show [.lit (.int .i64 (gi t0))] = [t0]
  rw [fit_int h0]
def enc_t_Motor (x : Motor) : List (TreeOf TI Car) := [.lit (.int .i64 x.Max), .lit (.int .i64 x.Up), .lit (.int .i64 x.Down), .lit (.int .i64 x.Stop)]
def dec_t_Motor (ts : List (TreeOf TI Car)) : Motor := ⟨gi (tx ts 0), gi (tx ts 1), gi (tx ts 2), gi (tx ts 3)⟩
theorem fit_t_Motor (x : Motor) : fits (shp .t_Motor) (enc_t_Motor x) = true := rfl
theorem ed_t_Motor (ts : List (TreeOf TI Car)) (h : fits (shp .t_Motor) ts = true) : enc_t_Motor (dec_t_Motor ts) = ts := by
  obtain ⟨t0, ts, rfl, h0, h⟩ := fits_cons h
  obtain ⟨t1, ts, rfl, h1, h⟩ := fits_cons h
  obtain ⟨t2, ts, rfl, h2, h⟩ := fits_cons h
  obtain ⟨t3, ts, rfl, h3, h⟩ := fits_cons h
  obtain rfl := fits_nil h
  show [.lit (.int .i64 (gi t0)), .lit (.int .i64 (gi t1)), .lit (.int .i64 (gi t2)), .lit (.int .i64 (gi t3))] = [t0, t1, t2, t3]
  rw [fit_int h0, fit_int h1, fit_int h2, fit_int h3]
def enc_t_Drive (x : Drive) : List (TreeOf TI Car) := [.lit (.int .i64 x.State), .lit (.int .i64 x.Speed), .lit (.int .i64 x.Target), .lit (.int .i64 x.Moved)]
def dec_t_Drive (ts : List (TreeOf TI Car)) : Drive := ⟨gi (tx ts 0), gi (tx ts 1), gi (tx ts 2), gi (tx ts 3)⟩
theorem fit_t_Drive (x : Drive) : fits (shp .t_Drive) (enc_t_Drive x) = true := rfl
theorem ed_t_Drive (ts : List (TreeOf TI Car)) (h : fits (shp .t_Drive) ts = true) : enc_t_Drive (dec_t_Drive ts) = ts := by
  obtain ⟨t0, ts, rfl, h0, h⟩ := fits_cons h
  obtain ⟨t1, ts, rfl, h1, h⟩ := fits_cons h
  obtain ⟨t2, ts, rfl, h2, h⟩ := fits_cons h
  obtain ⟨t3, ts, rfl, h3, h⟩ := fits_cons h
  obtain rfl := fits_nil h
  show [.lit (.int .i64 (gi t0)), .lit (.int .i64 (gi t1)), .lit (.int .i64 (gi t2)), .lit (.int .i64 (gi t3))] = [t0, t1, t2, t3]
  rw [fit_int h0, fit_int h1, fit_int h2, fit_int h3]
def enc_t_Op (x : Op) : List (TreeOf TI Car) := [.lit (.int .i64 x.Kind), .lit (.int .i64 x.N)]
def dec_t_Op (ts : List (TreeOf TI Car)) : Op := ⟨gi (tx ts 0), gi (tx ts 1)⟩
theorem fit_t_Op (x : Op) : fits (shp .t_Op) (enc_t_Op x) = true := rfl
theorem ed_t_Op (ts : List (TreeOf TI Car)) (h : fits (shp .t_Op) ts = true) : enc_t_Op (dec_t_Op ts) = ts := by
  obtain ⟨t0, ts, rfl, h0, h⟩ := fits_cons h
  obtain ⟨t1, ts, rfl, h1, h⟩ := fits_cons h
  obtain rfl := fits_nil h
  show [.lit (.int .i64 (gi t0)), .lit (.int .i64 (gi t1))] = [t0, t1]
  rw [fit_int h0, fit_int h1]
def enc_l_Op (x : List Op) : List (TreeOf TI Car) := [.sl ⟨.t_Op, x⟩]
def dec_l_Op (ts : List (TreeOf TI Car)) : List Op := gl (Car := Car) .t_Op (tx ts 0)
theorem fit_l_Op (x : List Op) : fits (shp .l_Op) (enc_l_Op x) = true := rfl
theorem ed_l_Op (ts : List (TreeOf TI Car)) (h : fits (shp .l_Op) ts = true) : enc_l_Op (dec_l_Op ts) = ts := by
  obtain ⟨t0, ts, rfl, h0, h⟩ := fits_cons h
  obtain rfl := fits_nil h
  show [.sl ⟨.t_Op, gl .t_Op t0⟩] = [t0]
  rw [fit_sl h0]
def enc_t_bool (x : Bool) : List (TreeOf TI Car) := [.lit (.bool x)]
def dec_t_bool (ts : List (TreeOf TI Car)) : Bool := gb (tx ts 0)
theorem fit_t_bool (x : Bool) : fits (shp .t_bool) (enc_t_bool x) = true := rfl
theorem ed_t_bool (ts : List (TreeOf TI Car)) (h : fits (shp .t_bool) ts = true) : enc_t_bool (dec_t_bool ts) = ts := by
  obtain ⟨t0, ts, rfl, h0, h⟩ := fits_cons h
  obtain rfl := fits_nil h
  show [.lit (.bool (gb t0))] = [t0]
  rw [fit_bool h0]
def enc : (e : TI) → Car e → List (TreeOf TI Car)
  | .t_i64 => enc_t_i64
  | .t_Motor => enc_t_Motor
  | .t_Drive => enc_t_Drive
  | .t_Op => enc_t_Op
  | .l_Op => enc_l_Op
  | .t_bool => enc_t_bool
def dec : (e : TI) → List (TreeOf TI Car) → Car e
  | .t_i64 => dec_t_i64
  | .t_Motor => dec_t_Motor
  | .t_Drive => dec_t_Drive
  | .t_Op => dec_t_Op
  | .l_Op => dec_l_Op
  | .t_bool => dec_t_bool
def isAg : TI → Bool
  | .t_i64 => false
  | .t_Motor => true
  | .t_Drive => true
  | .t_Op => true
  | .l_Op => false
  | .t_bool => false
def ofT : TypeId → Option TI
  | 3 => some .t_i64
  | 4 => some .t_bool
  | 23 => some .t_Motor
  | 25 => some .t_Drive
  | 29 => some .t_i64
  | 40 => some .l_Op
  | 42 => some .t_Op
  | _ => none
instance sig : Sig where
  TI := TI
  deq := inferInstance
  Car := Car
  dft := dft
  shp := shp
  isAgg := isAg
  enc := enc
  dec := dec
  ofId := ofT
  enc_fits := fun e => match e with
    | .t_i64 => fit_t_i64
    | .t_Motor => fit_t_Motor
    | .t_Drive => fit_t_Drive
    | .t_Op => fit_t_Op
    | .l_Op => fit_l_Op
    | .t_bool => fit_t_bool
  enc_dec := fun e => match e with
    | .t_i64 => ed_t_i64
    | .t_Motor => ed_t_Motor
    | .t_Drive => ed_t_Drive
    | .t_Op => ed_t_Op
    | .l_Op => ed_l_Op
    | .t_bool => ed_t_bool
theorem mixed : Try.prog.follows .mixedOrders = true := by kernel_rfl
end Go.Proofs.Ytjlhngfmghipoaa
