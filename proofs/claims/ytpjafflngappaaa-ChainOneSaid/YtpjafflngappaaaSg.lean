/- Written by a program (gen.py): the data types of the program: their values in Lean and their cells. No condition. -/
import Derived.Test.YtpjafflngappaaaCmn
import Derived.Test.YtpjafflngappaaaRows
namespace Go.Proofs.Ytpjafflngappaaa
open Go.Cm Go.Proofs
structure Contact where
  ID : Int
  Critical : Bool
  Closed : Bool
  Latched : Bool
  Until : Int
def z_Contact : Contact := ⟨0, false, false, false, 0⟩
structure Chain where
  Contacts : List Contact
  Key : Int
def z_Chain : Chain := ⟨[], 0⟩
structure Op where
  Kind : Int
  ID : Int
  By : Int
  Time : Int
def z_Op : Op := ⟨0, 0, 0, 0⟩
inductive TI where
  | t_i64
  | t_bool
  | t_Contact
  | l_Contact
  | t_Chain
  | t_Op
  | l_Op
  | l_i64
def TI.ix : TI → Nat
  | .t_i64 => 0
  | .t_bool => 1
  | .t_Contact => 2
  | .l_Contact => 3
  | .t_Chain => 4
  | .t_Op => 5
  | .l_Op => 6
  | .l_i64 => 7
def TI.of : Nat → TI
  | 0 => .t_i64
  | 1 => .t_bool
  | 2 => .t_Contact
  | 3 => .l_Contact
  | 4 => .t_Chain
  | 5 => .t_Op
  | 6 => .l_Op
  | 7 => .l_i64
  | _ => .t_i64
theorem TI.of_ix (a : TI) : TI.of a.ix = a := by cases a <;> rfl
instance : DecidableEq TI := fun a b => if h : a.ix = b.ix then .isTrue (by rw [← TI.of_ix a, h, TI.of_ix]) else .isFalse (fun e => h (by rw [e]))
def Car : TI → Type
  | .t_i64 => Int
  | .t_bool => Bool
  | .t_Contact => Contact
  | .l_Contact => List Contact
  | .t_Chain => Chain
  | .t_Op => Op
  | .l_Op => List Op
  | .l_i64 => List Int
def shp : TI → List (LK TI)
  | .t_i64 => [.int .i64]
  | .t_bool => [.bool]
  | .t_Contact => [.int .i64, .bool, .bool, .bool, .int .i64]
  | .l_Contact => [.sl .t_Contact]
  | .t_Chain => [.sl .t_Contact, .int .i64]
  | .t_Op => [.int .i64, .int .i64, .int .i64, .int .i64]
  | .l_Op => [.sl .t_Op]
  | .l_i64 => [.sl .t_i64]
def dft : (e : TI) → Car e
  | .t_i64 => (0 : Int)
  | .t_bool => (false : Bool)
  | .t_Contact => (z_Contact : Contact)
  | .l_Contact => ([] : List Contact)
  | .t_Chain => (z_Chain : Chain)
  | .t_Op => (z_Op : Op)
  | .l_Op => ([] : List Op)
  | .l_i64 => ([] : List Int)
def enc_t_i64 (x : Int) : List (TreeOf TI Car) := [.lit (.int .i64 x)]
def dec_t_i64 (ts : List (TreeOf TI Car)) : Int := gi (tx ts 0)
theorem fit_t_i64 (x : Int) : fits (shp .t_i64) (enc_t_i64 x) = true := rfl
theorem ed_t_i64 (ts : List (TreeOf TI Car)) (h : fits (shp .t_i64) ts = true) : enc_t_i64 (dec_t_i64 ts) = ts := by
  obtain ⟨t0, ts, rfl, h0, h⟩ := fits_cons h
  obtain rfl := fits_nil h
  show [.lit (.int .i64 (gi t0))] = [t0]
  rw [fit_int h0]
def enc_t_bool (x : Bool) : List (TreeOf TI Car) := [.lit (.bool x)]
def dec_t_bool (ts : List (TreeOf TI Car)) : Bool := gb (tx ts 0)
theorem fit_t_bool (x : Bool) : fits (shp .t_bool) (enc_t_bool x) = true := rfl
theorem ed_t_bool (ts : List (TreeOf TI Car)) (h : fits (shp .t_bool) ts = true) : enc_t_bool (dec_t_bool ts) = ts := by
  obtain ⟨t0, ts, rfl, h0, h⟩ := fits_cons h
  obtain rfl := fits_nil h
  show [.lit (.bool (gb t0))] = [t0]
  rw [fit_bool h0]
def enc_t_Contact (x : Contact) : List (TreeOf TI Car) := [.lit (.int .i64 x.ID), .lit (.bool x.Critical), .lit (.bool x.Closed), .lit (.bool x.Latched), .lit (.int .i64 x.Until)]
def dec_t_Contact (ts : List (TreeOf TI Car)) : Contact := ⟨gi (tx ts 0), gb (tx ts 1), gb (tx ts 2), gb (tx ts 3), gi (tx ts 4)⟩
theorem fit_t_Contact (x : Contact) : fits (shp .t_Contact) (enc_t_Contact x) = true := rfl
theorem ed_t_Contact (ts : List (TreeOf TI Car)) (h : fits (shp .t_Contact) ts = true) : enc_t_Contact (dec_t_Contact ts) = ts := by
  obtain ⟨t0, ts, rfl, h0, h⟩ := fits_cons h
  obtain ⟨t1, ts, rfl, h1, h⟩ := fits_cons h
  obtain ⟨t2, ts, rfl, h2, h⟩ := fits_cons h
  obtain ⟨t3, ts, rfl, h3, h⟩ := fits_cons h
  obtain ⟨t4, ts, rfl, h4, h⟩ := fits_cons h
  obtain rfl := fits_nil h
  show [.lit (.int .i64 (gi t0)), .lit (.bool (gb t1)), .lit (.bool (gb t2)), .lit (.bool (gb t3)), .lit (.int .i64 (gi t4))] = [t0, t1, t2, t3, t4]
  rw [fit_int h0, fit_bool h1, fit_bool h2, fit_bool h3, fit_int h4]
def enc_l_Contact (x : List Contact) : List (TreeOf TI Car) := [.sl ⟨.t_Contact, x⟩]
def dec_l_Contact (ts : List (TreeOf TI Car)) : List Contact := gl (Car := Car) .t_Contact (tx ts 0)
theorem fit_l_Contact (x : List Contact) : fits (shp .l_Contact) (enc_l_Contact x) = true := rfl
theorem ed_l_Contact (ts : List (TreeOf TI Car)) (h : fits (shp .l_Contact) ts = true) : enc_l_Contact (dec_l_Contact ts) = ts := by
  obtain ⟨t0, ts, rfl, h0, h⟩ := fits_cons h
  obtain rfl := fits_nil h
  show [.sl ⟨.t_Contact, gl .t_Contact t0⟩] = [t0]
  rw [fit_sl h0]
def enc_t_Chain (x : Chain) : List (TreeOf TI Car) := [.sl ⟨.t_Contact, x.Contacts⟩, .lit (.int .i64 x.Key)]
def dec_t_Chain (ts : List (TreeOf TI Car)) : Chain := ⟨gl (Car := Car) .t_Contact (tx ts 0), gi (tx ts 1)⟩
theorem fit_t_Chain (x : Chain) : fits (shp .t_Chain) (enc_t_Chain x) = true := rfl
theorem ed_t_Chain (ts : List (TreeOf TI Car)) (h : fits (shp .t_Chain) ts = true) : enc_t_Chain (dec_t_Chain ts) = ts := by
  obtain ⟨t0, ts, rfl, h0, h⟩ := fits_cons h
  obtain ⟨t1, ts, rfl, h1, h⟩ := fits_cons h
  obtain rfl := fits_nil h
  show [.sl ⟨.t_Contact, gl .t_Contact t0⟩, .lit (.int .i64 (gi t1))] = [t0, t1]
  rw [fit_sl h0, fit_int h1]
def enc_t_Op (x : Op) : List (TreeOf TI Car) := [.lit (.int .i64 x.Kind), .lit (.int .i64 x.ID), .lit (.int .i64 x.By), .lit (.int .i64 x.Time)]
def dec_t_Op (ts : List (TreeOf TI Car)) : Op := ⟨gi (tx ts 0), gi (tx ts 1), gi (tx ts 2), gi (tx ts 3)⟩
theorem fit_t_Op (x : Op) : fits (shp .t_Op) (enc_t_Op x) = true := rfl
theorem ed_t_Op (ts : List (TreeOf TI Car)) (h : fits (shp .t_Op) ts = true) : enc_t_Op (dec_t_Op ts) = ts := by
  obtain ⟨t0, ts, rfl, h0, h⟩ := fits_cons h
  obtain ⟨t1, ts, rfl, h1, h⟩ := fits_cons h
  obtain ⟨t2, ts, rfl, h2, h⟩ := fits_cons h
  obtain ⟨t3, ts, rfl, h3, h⟩ := fits_cons h
  obtain rfl := fits_nil h
  show [.lit (.int .i64 (gi t0)), .lit (.int .i64 (gi t1)), .lit (.int .i64 (gi t2)), .lit (.int .i64 (gi t3))] = [t0, t1, t2, t3]
  rw [fit_int h0, fit_int h1, fit_int h2, fit_int h3]
def enc_l_Op (x : List Op) : List (TreeOf TI Car) := [.sl ⟨.t_Op, x⟩]
def dec_l_Op (ts : List (TreeOf TI Car)) : List Op := gl (Car := Car) .t_Op (tx ts 0)
theorem fit_l_Op (x : List Op) : fits (shp .l_Op) (enc_l_Op x) = true := rfl
theorem ed_l_Op (ts : List (TreeOf TI Car)) (h : fits (shp .l_Op) ts = true) : enc_l_Op (dec_l_Op ts) = ts := by
  obtain ⟨t0, ts, rfl, h0, h⟩ := fits_cons h
  obtain rfl := fits_nil h
  show [.sl ⟨.t_Op, gl .t_Op t0⟩] = [t0]
  rw [fit_sl h0]
def enc_l_i64 (x : List Int) : List (TreeOf TI Car) := [.sl ⟨.t_i64, x⟩]
def dec_l_i64 (ts : List (TreeOf TI Car)) : List Int := gl (Car := Car) .t_i64 (tx ts 0)
theorem fit_l_i64 (x : List Int) : fits (shp .l_i64) (enc_l_i64 x) = true := rfl
theorem ed_l_i64 (ts : List (TreeOf TI Car)) (h : fits (shp .l_i64) ts = true) : enc_l_i64 (dec_l_i64 ts) = ts := by
  obtain ⟨t0, ts, rfl, h0, h⟩ := fits_cons h
  obtain rfl := fits_nil h
  show [.sl ⟨.t_i64, gl .t_i64 t0⟩] = [t0]
  rw [fit_sl h0]
def enc : (e : TI) → Car e → List (TreeOf TI Car)
  | .t_i64 => enc_t_i64
  | .t_bool => enc_t_bool
  | .t_Contact => enc_t_Contact
  | .l_Contact => enc_l_Contact
  | .t_Chain => enc_t_Chain
  | .t_Op => enc_t_Op
  | .l_Op => enc_l_Op
  | .l_i64 => enc_l_i64
def dec : (e : TI) → List (TreeOf TI Car) → Car e
  | .t_i64 => dec_t_i64
  | .t_bool => dec_t_bool
  | .t_Contact => dec_t_Contact
  | .l_Contact => dec_l_Contact
  | .t_Chain => dec_t_Chain
  | .t_Op => dec_t_Op
  | .l_Op => dec_l_Op
  | .l_i64 => dec_l_i64
def isAg : TI → Bool
  | .t_i64 => false
  | .t_bool => false
  | .t_Contact => true
  | .l_Contact => false
  | .t_Chain => true
  | .t_Op => true
  | .l_Op => false
  | .l_i64 => false
def ofT : TypeId → Option TI
  | 3 => some .t_i64
  | 4 => some .t_bool
  | 22 => some .l_Contact
  | 24 => some .t_Chain
  | 26 => some .t_i64
  | 39 => some .l_i64
  | 41 => some .l_Op
  | 45 => some .t_Op
  | 48 => some .t_Contact
  | _ => none
instance sig : Sig where
  TI := TI
  deq := inferInstance
  Car := Car
  dft := dft
  shp := shp
  isAgg := isAg
  enc := enc
  dec := dec
  ofId := ofT
  enc_fits := fun e => match e with
    | .t_i64 => fit_t_i64
    | .t_bool => fit_t_bool
    | .t_Contact => fit_t_Contact
    | .l_Contact => fit_l_Contact
    | .t_Chain => fit_t_Chain
    | .t_Op => fit_t_Op
    | .l_Op => fit_l_Op
    | .l_i64 => fit_l_i64
  enc_dec := fun e => match e with
    | .t_i64 => ed_t_i64
    | .t_bool => ed_t_bool
    | .t_Contact => ed_t_Contact
    | .l_Contact => ed_l_Contact
    | .t_Chain => ed_t_Chain
    | .t_Op => ed_t_Op
    | .l_Op => ed_l_Op
    | .l_i64 => ed_l_i64
theorem mixed : Try.prog.follows .mixedOrders = true := by kernel_rfl
end Go.Proofs.Ytpjafflngappaaa
