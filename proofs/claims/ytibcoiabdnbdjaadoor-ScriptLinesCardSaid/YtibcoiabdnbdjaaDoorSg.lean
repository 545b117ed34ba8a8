/- Written by a program (gen.py): the data types of the program: their values in Lean and their cells. No condition. -/
import Derived.Test.YtibcoiabdnbdjaaDoorCmn
import Derived.Test.YtibcoiabdnbdjaaDoorRows
namespace Go.Proofs.YtibcoiabdnbdjaaDoor
open Go.Cm Go.Proofs
structure Reply where
  Err : Int
  N : Int
  List : List Int
def z_Reply : Reply := ⟨0, 0, []⟩
structure Event where
  Kind : Int
  Args : List Int
def z_Event : Event := ⟨0, []⟩
structure failure where
  line : Int
  err : Int
def z_failure : failure := ⟨0, 0⟩
structure Builder where
  addr : Bool
  buf : List Int
def z_Builder : Builder := ⟨false, []⟩
structure form where
  word : ByteArray
  args : Int
  more : Bool
def z_form : form := ⟨⟨#[]⟩, 0, false⟩
inductive TI where
  | t_str
  | t_bool
  | t_i64
  | l_i64
  | t_Reply
  | t_Event
  | l_Event
  | t_failure
  | t_u8
  | l_u8
  | t_Builder
  | l_str
  | t_u64
  | t_form
def TI.ix : TI → Nat
  | .t_str => 0
  | .t_bool => 1
  | .t_i64 => 2
  | .l_i64 => 3
  | .t_Reply => 4
  | .t_Event => 5
  | .l_Event => 6
  | .t_failure => 7
  | .t_u8 => 8
  | .l_u8 => 9
  | .t_Builder => 10
  | .l_str => 11
  | .t_u64 => 12
  | .t_form => 13
def TI.of : Nat → TI
  | 0 => .t_str
  | 1 => .t_bool
  | 2 => .t_i64
  | 3 => .l_i64
  | 4 => .t_Reply
  | 5 => .t_Event
  | 6 => .l_Event
  | 7 => .t_failure
  | 8 => .t_u8
  | 9 => .l_u8
  | 10 => .t_Builder
  | 11 => .l_str
  | 12 => .t_u64
  | 13 => .t_form
  | _ => .t_str
theorem TI.of_ix (a : TI) : TI.of a.ix = a := by cases a <;> rfl
instance : DecidableEq TI := fun a b => if h : a.ix = b.ix then .isTrue (by rw [← TI.of_ix a, h, TI.of_ix]) else .isFalse (fun e => h (by rw [e]))
def Car : TI → Type
  | .t_str => ByteArray
  | .t_bool => Bool
  | .t_i64 => Int
  | .l_i64 => List Int
  | .t_Reply => Reply
  | .t_Event => Event
  | .l_Event => List Event
  | .t_failure => failure
  | .t_u8 => Int
  | .l_u8 => List Int
  | .t_Builder => Builder
  | .l_str => List ByteArray
  | .t_u64 => Int
  | .t_form => form
def shp : TI → List (LK TI)
  | .t_str => [.str]
  | .t_bool => [.bool]
  | .t_i64 => [.int .i64]
  | .l_i64 => [.sl .t_i64]
  | .t_Reply => [.int .i64, .int .i64, .sl .t_i64]
  | .t_Event => [.int .i64, .sl .t_i64]
  | .l_Event => [.sl .t_Event]
  | .t_failure => [.int .i64, .int .i64]
  | .t_u8 => [.int .u8]
  | .l_u8 => [.sl .t_u8]
  | .t_Builder => [.bool, .sl .t_u8]
  | .l_str => [.sl .t_str]
  | .t_u64 => [.int .u64]
  | .t_form => [.str, .int .i64, .bool]
def dft : (e : TI) → Car e
  | .t_str => (⟨#[]⟩ : ByteArray)
  | .t_bool => (false : Bool)
  | .t_i64 => (0 : Int)
  | .l_i64 => ([] : List Int)
  | .t_Reply => (z_Reply : Reply)
  | .t_Event => (z_Event : Event)
  | .l_Event => ([] : List Event)
  | .t_failure => (z_failure : failure)
  | .t_u8 => (0 : Int)
  | .l_u8 => ([] : List Int)
  | .t_Builder => (z_Builder : Builder)
  | .l_str => ([] : List ByteArray)
  | .t_u64 => (0 : Int)
  | .t_form => (z_form : form)
def enc_t_str (x : ByteArray) : List (TreeOf TI Car) := [.lit (.string x)]
def dec_t_str (ts : List (TreeOf TI Car)) : ByteArray := gs (tx ts 0)
theorem fit_t_str (x : ByteArray) : fits (shp .t_str) (enc_t_str x) = true := rfl
theorem ed_t_str (ts : List (TreeOf TI Car)) (h : fits (shp .t_str) ts = true) : enc_t_str (dec_t_str ts) = ts := by
  obtain ⟨t0, ts, rfl, h0, h⟩ := fits_cons h
  obtain rfl := fits_nil h
  show [.lit (.string (gs t0))] = [t0]
  rw [fit_str h0]
def enc_t_bool (x : Bool) : List (TreeOf TI Car) := [.lit (.bool x)]
def dec_t_bool (ts : List (TreeOf TI Car)) : Bool := gb (tx ts 0)
theorem fit_t_bool (x : Bool) : fits (shp .t_bool) (enc_t_bool x) = true := rfl
theorem ed_t_bool (ts : List (TreeOf TI Car)) (h : fits (shp .t_bool) ts = true) : enc_t_bool (dec_t_bool ts) = ts := by
  obtain ⟨t0, ts, rfl, h0, h⟩ := fits_cons h
  obtain rfl := fits_nil h
  show [.lit (.bool (gb t0))] = [t0]
  rw [fit_bool h0]
def enc_t_i64 (x : Int) : List (TreeOf TI Car) := [.lit (.int .i64 x)]
def dec_t_i64 (ts : List (TreeOf TI Car)) : Int := gi (tx ts 0)
theorem fit_t_i64 (x : Int) : fits (shp .t_i64) (enc_t_i64 x) = true := rfl
theorem ed_t_i64 (ts : List (TreeOf TI Car)) (h : fits (shp .t_i64) ts = true) : enc_t_i64 (dec_t_i64 ts) = ts := by
  obtain ⟨t0, ts, rfl, h0, h⟩ := fits_cons h
  obtain rfl := fits_nil h
  show [.lit (.int .i64 (gi t0))] = [t0]
  rw [fit_int h0]
def enc_l_i64 (x : List Int) : List (TreeOf TI Car) := [.sl ⟨.t_i64, x⟩]
def dec_l_i64 (ts : List (TreeOf TI Car)) : List Int := gl (Car := Car) .t_i64 (tx ts 0)
theorem fit_l_i64 (x : List Int) : fits (shp .l_i64) (enc_l_i64 x) = true := rfl
theorem ed_l_i64 (ts : List (TreeOf TI Car)) (h : fits (shp .l_i64) ts = true) : enc_l_i64 (dec_l_i64 ts) = ts := by
  obtain ⟨t0, ts, rfl, h0, h⟩ := fits_cons h
  obtain rfl := fits_nil h
  show [.sl ⟨.t_i64, gl .t_i64 t0⟩] = [t0]
  rw [fit_sl h0]
def enc_t_Reply (x : Reply) : List (TreeOf TI Car) := [.lit (.int .i64 x.Err), .lit (.int .i64 x.N), .sl ⟨.t_i64, x.List⟩]
def dec_t_Reply (ts : List (TreeOf TI Car)) : Reply := ⟨gi (tx ts 0), gi (tx ts 1), gl (Car := Car) .t_i64 (tx ts 2)⟩
theorem fit_t_Reply (x : Reply) : fits (shp .t_Reply) (enc_t_Reply x) = true := rfl
theorem ed_t_Reply (ts : List (TreeOf TI Car)) (h : fits (shp .t_Reply) ts = true) : enc_t_Reply (dec_t_Reply ts) = ts := by
  obtain ⟨t0, ts, rfl, h0, h⟩ := fits_cons h
  obtain ⟨t1, ts, rfl, h1, h⟩ := fits_cons h
  obtain ⟨t2, ts, rfl, h2, h⟩ := fits_cons h
  obtain rfl := fits_nil h
  show [.lit (.int .i64 (gi t0)), .lit (.int .i64 (gi t1)), .sl ⟨.t_i64, gl .t_i64 t2⟩] = [t0, t1, t2]
  rw [fit_int h0, fit_int h1, fit_sl h2]
def enc_t_Event (x : Event) : List (TreeOf TI Car) := [.lit (.int .i64 x.Kind), .sl ⟨.t_i64, x.Args⟩]
def dec_t_Event (ts : List (TreeOf TI Car)) : Event := ⟨gi (tx ts 0), gl (Car := Car) .t_i64 (tx ts 1)⟩
theorem fit_t_Event (x : Event) : fits (shp .t_Event) (enc_t_Event x) = true := rfl
theorem ed_t_Event (ts : List (TreeOf TI Car)) (h : fits (shp .t_Event) ts = true) : enc_t_Event (dec_t_Event ts) = ts := by
  obtain ⟨t0, ts, rfl, h0, h⟩ := fits_cons h
  obtain ⟨t1, ts, rfl, h1, h⟩ := fits_cons h
  obtain rfl := fits_nil h
  show [.lit (.int .i64 (gi t0)), .sl ⟨.t_i64, gl .t_i64 t1⟩] = [t0, t1]
  rw [fit_int h0, fit_sl h1]
def enc_l_Event (x : List Event) : List (TreeOf TI Car) := [.sl ⟨.t_Event, x⟩]
def dec_l_Event (ts : List (TreeOf TI Car)) : List Event := gl (Car := Car) .t_Event (tx ts 0)
theorem fit_l_Event (x : List Event) : fits (shp .l_Event) (enc_l_Event x) = true := rfl
theorem ed_l_Event (ts : List (TreeOf TI Car)) (h : fits (shp .l_Event) ts = true) : enc_l_Event (dec_l_Event ts) = ts := by
  obtain ⟨t0, ts, rfl, h0, h⟩ := fits_cons h
  obtain rfl := fits_nil h
  show [.sl ⟨.t_Event, gl .t_Event t0⟩] = [t0]
  rw [fit_sl h0]
def enc_t_failure (x : failure) : List (TreeOf TI Car) := [.lit (.int .i64 x.line), .lit (.int .i64 x.err)]
def dec_t_failure (ts : List (TreeOf TI Car)) : failure := ⟨gi (tx ts 0), gi (tx ts 1)⟩
theorem fit_t_failure (x : failure) : fits (shp .t_failure) (enc_t_failure x) = true := rfl
theorem ed_t_failure (ts : List (TreeOf TI Car)) (h : fits (shp .t_failure) ts = true) : enc_t_failure (dec_t_failure ts) = ts := by
  obtain ⟨t0, ts, rfl, h0, h⟩ := fits_cons h
  obtain ⟨t1, ts, rfl, h1, h⟩ := fits_cons h
  obtain rfl := fits_nil h
  show [.lit (.int .i64 (gi t0)), .lit (.int .i64 (gi t1))] = [t0, t1]
  rw [fit_int h0, fit_int h1]
def enc_t_u8 (x : Int) : List (TreeOf TI Car) := [.lit (.int .u8 x)]
def dec_t_u8 (ts : List (TreeOf TI Car)) : Int := gi (tx ts 0)
theorem fit_t_u8 (x : Int) : fits (shp .t_u8) (enc_t_u8 x) = true := rfl
theorem ed_t_u8 (ts : List (TreeOf TI Car)) (h : fits (shp .t_u8) ts = true) : enc_t_u8 (dec_t_u8 ts) = ts := by
  obtain ⟨t0, ts, rfl, h0, h⟩ := fits_cons h
  obtain rfl := fits_nil h
  show [.lit (.int .u8 (gi t0))] = [t0]
  rw [fit_int h0]
def enc_l_u8 (x : List Int) : List (TreeOf TI Car) := [.sl ⟨.t_u8, x⟩]
def dec_l_u8 (ts : List (TreeOf TI Car)) : List Int := gl (Car := Car) .t_u8 (tx ts 0)
theorem fit_l_u8 (x : List Int) : fits (shp .l_u8) (enc_l_u8 x) = true := rfl
theorem ed_l_u8 (ts : List (TreeOf TI Car)) (h : fits (shp .l_u8) ts = true) : enc_l_u8 (dec_l_u8 ts) = ts := by
  obtain ⟨t0, ts, rfl, h0, h⟩ := fits_cons h
  obtain rfl := fits_nil h
  show [.sl ⟨.t_u8, gl .t_u8 t0⟩] = [t0]
  rw [fit_sl h0]
def enc_t_Builder (x : Builder) : List (TreeOf TI Car) := [.lit (.bool x.addr), .sl ⟨.t_u8, x.buf⟩]
def dec_t_Builder (ts : List (TreeOf TI Car)) : Builder := ⟨gb (tx ts 0), gl (Car := Car) .t_u8 (tx ts 1)⟩
theorem fit_t_Builder (x : Builder) : fits (shp .t_Builder) (enc_t_Builder x) = true := rfl
theorem ed_t_Builder (ts : List (TreeOf TI Car)) (h : fits (shp .t_Builder) ts = true) : enc_t_Builder (dec_t_Builder ts) = ts := by
  obtain ⟨t0, ts, rfl, h0, h⟩ := fits_cons h
  obtain ⟨t1, ts, rfl, h1, h⟩ := fits_cons h
  obtain rfl := fits_nil h
  show [.lit (.bool (gb t0)), .sl ⟨.t_u8, gl .t_u8 t1⟩] = [t0, t1]
  rw [fit_bool h0, fit_sl h1]
def enc_l_str (x : List ByteArray) : List (TreeOf TI Car) := [.sl ⟨.t_str, x⟩]
def dec_l_str (ts : List (TreeOf TI Car)) : List ByteArray := gl (Car := Car) .t_str (tx ts 0)
theorem fit_l_str (x : List ByteArray) : fits (shp .l_str) (enc_l_str x) = true := rfl
theorem ed_l_str (ts : List (TreeOf TI Car)) (h : fits (shp .l_str) ts = true) : enc_l_str (dec_l_str ts) = ts := by
  obtain ⟨t0, ts, rfl, h0, h⟩ := fits_cons h
  obtain rfl := fits_nil h
  show [.sl ⟨.t_str, gl .t_str t0⟩] = [t0]
  rw [fit_sl h0]
def enc_t_u64 (x : Int) : List (TreeOf TI Car) := [.lit (.int .u64 x)]
def dec_t_u64 (ts : List (TreeOf TI Car)) : Int := gi (tx ts 0)
theorem fit_t_u64 (x : Int) : fits (shp .t_u64) (enc_t_u64 x) = true := rfl
theorem ed_t_u64 (ts : List (TreeOf TI Car)) (h : fits (shp .t_u64) ts = true) : enc_t_u64 (dec_t_u64 ts) = ts := by
  obtain ⟨t0, ts, rfl, h0, h⟩ := fits_cons h
  obtain rfl := fits_nil h
  show [.lit (.int .u64 (gi t0))] = [t0]
  rw [fit_int h0]
def enc_t_form (x : form) : List (TreeOf TI Car) := [.lit (.string x.word), .lit (.int .i64 x.args), .lit (.bool x.more)]
def dec_t_form (ts : List (TreeOf TI Car)) : form := ⟨gs (tx ts 0), gi (tx ts 1), gb (tx ts 2)⟩
theorem fit_t_form (x : form) : fits (shp .t_form) (enc_t_form x) = true := rfl
theorem ed_t_form (ts : List (TreeOf TI Car)) (h : fits (shp .t_form) ts = true) : enc_t_form (dec_t_form ts) = ts := by
  obtain ⟨t0, ts, rfl, h0, h⟩ := fits_cons h
  obtain ⟨t1, ts, rfl, h1, h⟩ := fits_cons h
  obtain ⟨t2, ts, rfl, h2, h⟩ := fits_cons h
  obtain rfl := fits_nil h
  show [.lit (.string (gs t0)), .lit (.int .i64 (gi t1)), .lit (.bool (gb t2))] = [t0, t1, t2]
  rw [fit_str h0, fit_int h1, fit_bool h2]
def enc : (e : TI) → Car e → List (TreeOf TI Car)
  | .t_str => enc_t_str
  | .t_bool => enc_t_bool
  | .t_i64 => enc_t_i64
  | .l_i64 => enc_l_i64
  | .t_Reply => enc_t_Reply
  | .t_Event => enc_t_Event
  | .l_Event => enc_l_Event
  | .t_failure => enc_t_failure
  | .t_u8 => enc_t_u8
  | .l_u8 => enc_l_u8
  | .t_Builder => enc_t_Builder
  | .l_str => enc_l_str
  | .t_u64 => enc_t_u64
  | .t_form => enc_t_form
def dec : (e : TI) → List (TreeOf TI Car) → Car e
  | .t_str => dec_t_str
  | .t_bool => dec_t_bool
  | .t_i64 => dec_t_i64
  | .l_i64 => dec_l_i64
  | .t_Reply => dec_t_Reply
  | .t_Event => dec_t_Event
  | .l_Event => dec_l_Event
  | .t_failure => dec_t_failure
  | .t_u8 => dec_t_u8
  | .l_u8 => dec_l_u8
  | .t_Builder => dec_t_Builder
  | .l_str => dec_l_str
  | .t_u64 => dec_t_u64
  | .t_form => dec_t_form
def isAg : TI → Bool
  | .t_str => false
  | .t_bool => false
  | .t_i64 => false
  | .l_i64 => false
  | .t_Reply => true
  | .t_Event => true
  | .l_Event => false
  | .t_failure => true
  | .t_u8 => false
  | .l_u8 => false
  | .t_Builder => true
  | .l_str => false
  | .t_u64 => false
  | .t_form => true
def ofT : TypeId → Option TI
  | 3 => some .t_i64
  | 4 => some .t_bool
  | 5 => some .t_u8
  | 9 => some .t_str
  | 23 => some .l_Event
  | 24 => some .t_i64
  | 29 => some .l_i64
  | 31 => some .t_Reply
  | 39 => some .t_Event
  | 41 => some .t_failure
  | 50 => some .l_u8
  | 52 => some .t_Builder
  | 60 => some .t_form
  | 65 => some .l_str
  | 81 => some .t_u64
  | _ => none
def tab_3 : List Int := [0, 1, 28, 2, 29, 14, 24, 3, 30, 22, 20, 15, 25, 17, 4, 8, 31, 27, 13, 23, 21, 19, 16, 7, 26, 12, 18, 6, 11, 5, 10, 9]
def tab_4 : List Int := [0, 1, 56, 2, 57, 49, 28, 3, 61, 58, 42, 50, 38, 29, 17, 4, 62, 47, 59, 36, 45, 43, 51, 22, 53, 39, 33, 30, 24, 18, 12, 5, 63, 55, 48, 27, 60, 41, 37, 16, 46, 35, 44, 21, 52, 32, 23, 11, 54, 26, 40, 15, 34, 20, 31, 10, 25, 14, 19, 9, 13, 8, 7, 6]
def tab_2 : List Int := [1, 10, 100, 1000, 10000, 100000, 1000000, 10000000, 100000000, 1000000000, 10000000000, 100000000000, 1000000000000, 10000000000000, 100000000000000, 1000000000000000, 10000000000000000, 100000000000000000, 1000000000000000000, 10000000000000000000]
def tab_0 : List form := [⟨⟨#[]⟩, 0, false⟩, ⟨⟨#[116, 105, 99, 107]⟩, 1, false⟩, ⟨⟨#[111, 98, 115, 101, 114, 118, 101]⟩, 5, false⟩, ⟨⟨#[108, 105, 102, 116]⟩, 5, false⟩, ⟨⟨#[115, 101, 108, 108]⟩, 5, false⟩, ⟨⟨#[112, 97, 115, 115]⟩, 2, false⟩, ⟨⟨#[111, 117, 116]⟩, 2, false⟩, ⟨⟨#[114, 101, 118, 111, 107, 101]⟩, 2, false⟩, ⟨⟨#[117, 112, 108, 111, 97, 100]⟩, 1, false⟩, ⟨⟨#[104, 101, 97, 114]⟩, 1, false⟩, ⟨⟨#[100, 101, 108, 105, 118, 101, 114]⟩, 1, false⟩, ⟨⟨#[108, 111, 115, 101]⟩, 1, false⟩, ⟨⟨#[99, 111, 112, 121]⟩, 1, false⟩, ⟨⟨#[115, 112, 108, 105, 116]⟩, 0, true⟩, ⟨⟨#[99, 108, 111, 115, 101]⟩, 3, false⟩, ⟨⟨#[114, 101, 108, 101, 97, 115, 101]⟩, 3, false⟩, ⟨⟨#[115, 105, 103, 110]⟩, 3, false⟩, ⟨⟨#[104, 97, 122, 97, 114, 100]⟩, 2, false⟩, ⟨⟨#[114, 101, 109, 111, 118, 101]⟩, 1, false⟩, ⟨⟨#[111, 112, 101, 110]⟩, 1, false⟩, ⟨⟨#[115, 104, 117, 116]⟩, 1, false⟩, ⟨⟨#[115, 101, 110, 100]⟩, 2, false⟩, ⟨⟨#[103, 114, 111, 111, 109]⟩, 3, false⟩, ⟨⟨#[119, 105, 110, 99, 104]⟩, 2, true⟩, ⟨⟨#[105, 115, 115, 117, 101]⟩, 6, true⟩, ⟨⟨#[112, 108, 97, 110]⟩, 5, false⟩, ⟨⟨#[99, 108, 101, 97, 114]⟩, 1, false⟩, ⟨⟨#[97, 114, 109]⟩, 2, false⟩, ⟨⟨#[102, 105, 114, 101]⟩, 3, false⟩, ⟨⟨#[101, 110, 100]⟩, 1, false⟩, ⟨⟨#[97, 98, 111, 114, 116]⟩, 1, false⟩, ⟨⟨#[103, 117, 110]⟩, 2, false⟩, ⟨⟨#[115, 110, 111, 119]⟩, 1, false⟩, ⟨⟨#[115, 119, 101, 101, 112]⟩, 0, true⟩, ⟨⟨#[115, 119, 101, 112, 116]⟩, 3, false⟩, ⟨⟨#[114, 101, 112, 111, 114, 116]⟩, 2, false⟩, ⟨⟨#[106, 117, 100, 103, 101]⟩, 2, false⟩, ⟨⟨#[103, 111]⟩, 2, false⟩, ⟨⟨#[97, 114, 114, 105, 118, 101]⟩, 1, false⟩, ⟨⟨#[108, 101, 97, 118, 101]⟩, 1, false⟩, ⟨⟨#[100, 111, 110, 101]⟩, 2, false⟩, ⟨⟨#[112, 101, 114, 105, 111, 100]⟩, 1, false⟩, ⟨⟨#[99, 111, 117, 110, 116]⟩, 0, false⟩, ⟨⟨#[115, 101, 116, 116, 108, 101]⟩, 0, false⟩, ⟨⟨#[114, 101, 102, 117, 110, 100]⟩, 2, false⟩]
def globs : Nat → Option (RowOf TI Car)
  | 3 => some ⟨.t_u8, tab_3⟩
  | 4 => some ⟨.t_u8, tab_4⟩
  | 2 => some ⟨.t_u64, tab_2⟩
  | 0 => some ⟨.t_form, tab_0⟩
  | _ => none
def isB : TypeId → Bool
  | 52 => true
  | _ => false
def isC : Nat → Bool
  | 38 => true
  | _ => false
instance sig : Sig where
  TI := TI
  deq := inferInstance
  Car := Car
  dft := dft
  shp := shp
  isAgg := isAg
  enc := enc
  dec := dec
  ofId := ofT
  glob := globs
  bld := isB
  chk := isC
  enc_fits := fun e => match e with
    | .t_str => fit_t_str
    | .t_bool => fit_t_bool
    | .t_i64 => fit_t_i64
    | .l_i64 => fit_l_i64
    | .t_Reply => fit_t_Reply
    | .t_Event => fit_t_Event
    | .l_Event => fit_l_Event
    | .t_failure => fit_t_failure
    | .t_u8 => fit_t_u8
    | .l_u8 => fit_l_u8
    | .t_Builder => fit_t_Builder
    | .l_str => fit_l_str
    | .t_u64 => fit_t_u64
    | .t_form => fit_t_form
  enc_dec := fun e => match e with
    | .t_str => ed_t_str
    | .t_bool => ed_t_bool
    | .t_i64 => ed_t_i64
    | .l_i64 => ed_l_i64
    | .t_Reply => ed_t_Reply
    | .t_Event => ed_t_Event
    | .l_Event => ed_l_Event
    | .t_failure => ed_t_failure
    | .t_u8 => ed_t_u8
    | .l_u8 => ed_l_u8
    | .t_Builder => ed_t_Builder
    | .l_str => ed_l_str
    | .t_u64 => ed_t_u64
    | .t_form => ed_t_form
def strU (s : ByteArray) : List Int := strL TI.t_u8 s
def byU (l : List Int) : ByteArray := bytesOf TI.t_u8 l
theorem mixed : Tryd.prog.follows .mixedOrders = true := by kernel_rfl
end Go.Proofs.YtibcoiabdnbdjaaDoor
