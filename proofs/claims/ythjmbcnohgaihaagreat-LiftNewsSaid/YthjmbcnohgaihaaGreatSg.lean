/- Written by a program (gen.py): the data types of the program: their values in Lean and their cells. No condition. -/
import Derived.Test.YthjmbcnohgaihaaGreatCmn
import Derived.Test.YthjmbcnohgaihaaGreatRows
namespace Go.Proofs.YthjmbcnohgaihaaGreat
open Go.Cm Go.Proofs
structure Lift where
  ID : Int
  Operator : Int
  From : Int
  To : Int
  Length : Int
  Speed : Int
  Seats : Int
  Spacing : Int
def z_Lift : Lift := ⟨0, 0, 0, 0, 0, 0, 0, 0⟩
structure Motor where
  Max : Int
  Up : Int
  Down : Int
  Stop : Int
def z_Motor : Motor := ⟨0, 0, 0, 0⟩
structure Brake where
  ID : Int
  Kind : Int
  Force : Int
  Tested : Int
  Measured : Int
def z_Brake : Brake := ⟨0, 0, 0, 0, 0⟩
structure Contact where
  ID : Int
  Critical : Bool
  Closed : Bool
  Latched : Bool
  Until : Int
def z_Contact : Contact := ⟨0, false, false, false, 0⟩
structure Chain where
  Contacts : List Contact
  Key : Int
def z_Chain : Chain := ⟨[], 0⟩
structure Alarm where
  On : Int
  Off : Int
  Hold : Int
  Active : Bool
  Low : Int
def z_Alarm : Alarm := ⟨0, 0, 0, false, 0⟩
structure Sign where
  Item : Int
  By : Int
  At : Int
def z_Sign : Sign := ⟨0, 0, 0⟩
structure Checklist where
  Items : List Int
  Every : Int
  Signs : List Sign
def z_Checklist : Checklist := ⟨[], 0, []⟩
structure Make where
  Lift : Lift
  Motor : Motor
  Brakes : List Brake
  Chain : Chain
  Wind : Alarm
  Checks : Checklist
def z_Make : Make := ⟨z_Lift, z_Motor, [], z_Chain, z_Alarm, z_Checklist⟩
structure Drive where
  State : Int
  Speed : Int
  Target : Int
  Moved : Int
def z_Drive : Drive := ⟨0, 0, 0, 0⟩
structure Line where
  Loop : Int
  Spacing : Int
  Offset : Int
  Load : List Int
def z_Line : Line := ⟨0, 0, 0, []⟩
structure Queue where
  Groups : List Int
  Singles : Int
def z_Queue : Queue := ⟨[], 0⟩
structure LiftState where
  Lift : Lift
  Motor : Motor
  Drive : Drive
  Brakes : List Brake
  Chain : Chain
  Wind : Alarm
  Line : Line
  Queue : Queue
  Checks : Checklist
  Time : Int
  Mode : Int
  Up : Int
  Off : Int
def z_LiftState : LiftState := ⟨z_Lift, z_Motor, z_Drive, [], z_Chain, z_Alarm, z_Line, z_Queue, z_Checklist, 0, 0, 0, 0⟩
structure LiftEvent where
  Kind : Int
  N : Int
  M : Int
  By : Int
def z_LiftEvent : LiftEvent := ⟨0, 0, 0, 0⟩
inductive TI where
  | t_i64
  | t_Lift
  | t_Motor
  | t_Brake
  | l_Brake
  | t_bool
  | t_Contact
  | l_Contact
  | t_Chain
  | t_Alarm
  | l_i64
  | t_Sign
  | l_Sign
  | t_Checklist
  | t_Make
  | t_Drive
  | t_Line
  | t_Queue
  | t_LiftState
  | t_LiftEvent
  | l_LiftEvent
def TI.ix : TI → Nat
  | .t_i64 => 0
  | .t_Lift => 1
  | .t_Motor => 2
  | .t_Brake => 3
  | .l_Brake => 4
  | .t_bool => 5
  | .t_Contact => 6
  | .l_Contact => 7
  | .t_Chain => 8
  | .t_Alarm => 9
  | .l_i64 => 10
  | .t_Sign => 11
  | .l_Sign => 12
  | .t_Checklist => 13
  | .t_Make => 14
  | .t_Drive => 15
  | .t_Line => 16
  | .t_Queue => 17
  | .t_LiftState => 18
  | .t_LiftEvent => 19
  | .l_LiftEvent => 20
def TI.of : Nat → TI
  | 0 => .t_i64
  | 1 => .t_Lift
  | 2 => .t_Motor
  | 3 => .t_Brake
  | 4 => .l_Brake
  | 5 => .t_bool
  | 6 => .t_Contact
  | 7 => .l_Contact
  | 8 => .t_Chain
  | 9 => .t_Alarm
  | 10 => .l_i64
  | 11 => .t_Sign
  | 12 => .l_Sign
  | 13 => .t_Checklist
  | 14 => .t_Make
  | 15 => .t_Drive
  | 16 => .t_Line
  | 17 => .t_Queue
  | 18 => .t_LiftState
  | 19 => .t_LiftEvent
  | 20 => .l_LiftEvent
  | _ => .t_i64
theorem TI.of_ix (a : TI) : TI.of a.ix = a := by cases a <;> rfl
instance : DecidableEq TI := fun a b => if h : a.ix = b.ix then .isTrue (by rw [← TI.of_ix a, h, TI.of_ix]) else .isFalse (fun e => h (by rw [e]))
def Car : TI → Type
  | .t_i64 => Int
  | .t_Lift => Lift
  | .t_Motor => Motor
  | .t_Brake => Brake
  | .l_Brake => List Brake
  | .t_bool => Bool
  | .t_Contact => Contact
  | .l_Contact => List Contact
  | .t_Chain => Chain
  | .t_Alarm => Alarm
  | .l_i64 => List Int
  | .t_Sign => Sign
  | .l_Sign => List Sign
  | .t_Checklist => Checklist
  | .t_Make => Make
  | .t_Drive => Drive
  | .t_Line => Line
  | .t_Queue => Queue
  | .t_LiftState => LiftState
  | .t_LiftEvent => LiftEvent
  | .l_LiftEvent => List LiftEvent
def shp : TI → List (LK TI)
  | .t_i64 => [.int .i64]
  | .t_Lift => [.int .i64, .int .i64, .int .i64, .int .i64, .int .i64, .int .i64, .int .i64, .int .i64]
  | .t_Motor => [.int .i64, .int .i64, .int .i64, .int .i64]
  | .t_Brake => [.int .i64, .int .i64, .int .i64, .int .i64, .int .i64]
  | .l_Brake => [.sl .t_Brake]
  | .t_bool => [.bool]
  | .t_Contact => [.int .i64, .bool, .bool, .bool, .int .i64]
  | .l_Contact => [.sl .t_Contact]
  | .t_Chain => [.sl .t_Contact, .int .i64]
  | .t_Alarm => [.int .i64, .int .i64, .int .i64, .bool, .int .i64]
  | .l_i64 => [.sl .t_i64]
  | .t_Sign => [.int .i64, .int .i64, .int .i64]
  | .l_Sign => [.sl .t_Sign]
  | .t_Checklist => [.sl .t_i64, .int .i64, .sl .t_Sign]
  | .t_Make => [.int .i64, .int .i64, .int .i64, .int .i64, .int .i64, .int .i64, .int .i64, .int .i64, .int .i64, .int .i64, .int .i64, .int .i64, .sl .t_Brake, .sl .t_Contact, .int .i64, .int .i64, .int .i64, .int .i64, .bool, .int .i64, .sl .t_i64, .int .i64, .sl .t_Sign]
  | .t_Drive => [.int .i64, .int .i64, .int .i64, .int .i64]
  | .t_Line => [.int .i64, .int .i64, .int .i64, .sl .t_i64]
  | .t_Queue => [.sl .t_i64, .int .i64]
  | .t_LiftState => [.int .i64, .int .i64, .int .i64, .int .i64, .int .i64, .int .i64, .int .i64, .int .i64, .int .i64, .int .i64, .int .i64, .int .i64, .int .i64, .int .i64, .int .i64, .int .i64, .sl .t_Brake, .sl .t_Contact, .int .i64, .int .i64, .int .i64, .int .i64, .bool, .int .i64, .int .i64, .int .i64, .int .i64, .sl .t_i64, .sl .t_i64, .int .i64, .sl .t_i64, .int .i64, .sl .t_Sign, .int .i64, .int .i64, .int .i64, .int .i64]
  | .t_LiftEvent => [.int .i64, .int .i64, .int .i64, .int .i64]
  | .l_LiftEvent => [.sl .t_LiftEvent]
def dft : (e : TI) → Car e
  | .t_i64 => (0 : Int)
  | .t_Lift => (z_Lift : Lift)
  | .t_Motor => (z_Motor : Motor)
  | .t_Brake => (z_Brake : Brake)
  | .l_Brake => ([] : List Brake)
  | .t_bool => (false : Bool)
  | .t_Contact => (z_Contact : Contact)
  | .l_Contact => ([] : List Contact)
  | .t_Chain => (z_Chain : Chain)
  | .t_Alarm => (z_Alarm : Alarm)
  | .l_i64 => ([] : List Int)
  | .t_Sign => (z_Sign : Sign)
  | .l_Sign => ([] : List Sign)
  | .t_Checklist => (z_Checklist : Checklist)
  | .t_Make => (z_Make : Make)
  | .t_Drive => (z_Drive : Drive)
  | .t_Line => (z_Line : Line)
  | .t_Queue => (z_Queue : Queue)
  | .t_LiftState => (z_LiftState : LiftState)
  | .t_LiftEvent => (z_LiftEvent : LiftEvent)
  | .l_LiftEvent => ([] : List LiftEvent)
def enc_t_i64 (x : Int) : List (TreeOf TI Car) := [.lit (.int .i64 x)]
def dec_t_i64 (ts : List (TreeOf TI Car)) : Int := gi (tx ts 0)
theorem fit_t_i64 (x : Int) : fits (shp .t_i64) (enc_t_i64 x) = true := rfl
theorem ed_t_i64 (ts : List (TreeOf TI Car)) (h : fits (shp .t_i64) ts = true) : enc_t_i64 (dec_t_i64 ts) = ts := by
  obtain ⟨t0, ts, rfl, h0, h⟩ := fits_cons h
  obtain rfl := fits_nil h
  show [.lit (.int .i64 (gi t0))] = [t0]
  rw [fit_int h0]
def enc_t_Lift (x : Lift) : List (TreeOf TI Car) := [.lit (.int .i64 x.ID), .lit (.int .i64 x.Operator), .lit (.int .i64 x.From), .lit (.int .i64 x.To), .lit (.int .i64 x.Length), .lit (.int .i64 x.Speed), .lit (.int .i64 x.Seats), .lit (.int .i64 x.Spacing)]
def dec_t_Lift (ts : List (TreeOf TI Car)) : Lift := ⟨gi (tx ts 0), gi (tx ts 1), gi (tx ts 2), gi (tx ts 3), gi (tx ts 4), gi (tx ts 5), gi (tx ts 6), gi (tx ts 7)⟩
theorem fit_t_Lift (x : Lift) : fits (shp .t_Lift) (enc_t_Lift x) = true := rfl
theorem ed_t_Lift (ts : List (TreeOf TI Car)) (h : fits (shp .t_Lift) ts = true) : enc_t_Lift (dec_t_Lift ts) = ts := by
  obtain ⟨t0, ts, rfl, h0, h⟩ := fits_cons h
  obtain ⟨t1, ts, rfl, h1, h⟩ := fits_cons h
  obtain ⟨t2, ts, rfl, h2, h⟩ := fits_cons h
  obtain ⟨t3, ts, rfl, h3, h⟩ := fits_cons h
  obtain ⟨t4, ts, rfl, h4, h⟩ := fits_cons h
  obtain ⟨t5, ts, rfl, h5, h⟩ := fits_cons h
  obtain ⟨t6, ts, rfl, h6, h⟩ := fits_cons h
  obtain ⟨t7, ts, rfl, h7, h⟩ := fits_cons h
  obtain rfl := fits_nil h
  show [.lit (.int .i64 (gi t0)), .lit (.int .i64 (gi t1)), .lit (.int .i64 (gi t2)), .lit (.int .i64 (gi t3)), .lit (.int .i64 (gi t4)), .lit (.int .i64 (gi t5)), .lit (.int .i64 (gi t6)), .lit (.int .i64 (gi t7))] = [t0, t1, t2, t3, t4, t5, t6, t7]
  rw [fit_int h0, fit_int h1, fit_int h2, fit_int h3, fit_int h4, fit_int h5, fit_int h6, fit_int h7]
def enc_t_Motor (x : Motor) : List (TreeOf TI Car) := [.lit (.int .i64 x.Max), .lit (.int .i64 x.Up), .lit (.int .i64 x.Down), .lit (.int .i64 x.Stop)]
def dec_t_Motor (ts : List (TreeOf TI Car)) : Motor := ⟨gi (tx ts 0), gi (tx ts 1), gi (tx ts 2), gi (tx ts 3)⟩
theorem fit_t_Motor (x : Motor) : fits (shp .t_Motor) (enc_t_Motor x) = true := rfl
theorem ed_t_Motor (ts : List (TreeOf TI Car)) (h : fits (shp .t_Motor) ts = true) : enc_t_Motor (dec_t_Motor ts) = ts := by
  obtain ⟨t0, ts, rfl, h0, h⟩ := fits_cons h
  obtain ⟨t1, ts, rfl, h1, h⟩ := fits_cons h
  obtain ⟨t2, ts, rfl, h2, h⟩ := fits_cons h
  obtain ⟨t3, ts, rfl, h3, h⟩ := fits_cons h
  obtain rfl := fits_nil h
  show [.lit (.int .i64 (gi t0)), .lit (.int .i64 (gi t1)), .lit (.int .i64 (gi t2)), .lit (.int .i64 (gi t3))] = [t0, t1, t2, t3]
  rw [fit_int h0, fit_int h1, fit_int h2, fit_int h3]
def enc_t_Brake (x : Brake) : List (TreeOf TI Car) := [.lit (.int .i64 x.ID), .lit (.int .i64 x.Kind), .lit (.int .i64 x.Force), .lit (.int .i64 x.Tested), .lit (.int .i64 x.Measured)]
def dec_t_Brake (ts : List (TreeOf TI Car)) : Brake := ⟨gi (tx ts 0), gi (tx ts 1), gi (tx ts 2), gi (tx ts 3), gi (tx ts 4)⟩
theorem fit_t_Brake (x : Brake) : fits (shp .t_Brake) (enc_t_Brake x) = true := rfl
theorem ed_t_Brake (ts : List (TreeOf TI Car)) (h : fits (shp .t_Brake) ts = true) : enc_t_Brake (dec_t_Brake ts) = ts := by
  obtain ⟨t0, ts, rfl, h0, h⟩ := fits_cons h
  obtain ⟨t1, ts, rfl, h1, h⟩ := fits_cons h
  obtain ⟨t2, ts, rfl, h2, h⟩ := fits_cons h
  obtain ⟨t3, ts, rfl, h3, h⟩ := fits_cons h
  obtain ⟨t4, ts, rfl, h4, h⟩ := fits_cons h
  obtain rfl := fits_nil h
  show [.lit (.int .i64 (gi t0)), .lit (.int .i64 (gi t1)), .lit (.int .i64 (gi t2)), .lit (.int .i64 (gi t3)), .lit (.int .i64 (gi t4))] = [t0, t1, t2, t3, t4]
  rw [fit_int h0, fit_int h1, fit_int h2, fit_int h3, fit_int h4]
def enc_l_Brake (x : List Brake) : List (TreeOf TI Car) := [.sl ⟨.t_Brake, x⟩]
def dec_l_Brake (ts : List (TreeOf TI Car)) : List Brake := gl (Car := Car) .t_Brake (tx ts 0)
theorem fit_l_Brake (x : List Brake) : fits (shp .l_Brake) (enc_l_Brake x) = true := rfl
theorem ed_l_Brake (ts : List (TreeOf TI Car)) (h : fits (shp .l_Brake) ts = true) : enc_l_Brake (dec_l_Brake ts) = ts := by
  obtain ⟨t0, ts, rfl, h0, h⟩ := fits_cons h
  obtain rfl := fits_nil h
  show [.sl ⟨.t_Brake, gl .t_Brake t0⟩] = [t0]
  rw [fit_sl h0]
def enc_t_bool (x : Bool) : List (TreeOf TI Car) := [.lit (.bool x)]
def dec_t_bool (ts : List (TreeOf TI Car)) : Bool := gb (tx ts 0)
theorem fit_t_bool (x : Bool) : fits (shp .t_bool) (enc_t_bool x) = true := rfl
theorem ed_t_bool (ts : List (TreeOf TI Car)) (h : fits (shp .t_bool) ts = true) : enc_t_bool (dec_t_bool ts) = ts := by
  obtain ⟨t0, ts, rfl, h0, h⟩ := fits_cons h
  obtain rfl := fits_nil h
  show [.lit (.bool (gb t0))] = [t0]
  rw [fit_bool h0]
def enc_t_Contact (x : Contact) : List (TreeOf TI Car) := [.lit (.int .i64 x.ID), .lit (.bool x.Critical), .lit (.bool x.Closed), .lit (.bool x.Latched), .lit (.int .i64 x.Until)]
def dec_t_Contact (ts : List (TreeOf TI Car)) : Contact := ⟨gi (tx ts 0), gb (tx ts 1), gb (tx ts 2), gb (tx ts 3), gi (tx ts 4)⟩
theorem fit_t_Contact (x : Contact) : fits (shp .t_Contact) (enc_t_Contact x) = true := rfl
theorem ed_t_Contact (ts : List (TreeOf TI Car)) (h : fits (shp .t_Contact) ts = true) : enc_t_Contact (dec_t_Contact ts) = ts := by
  obtain ⟨t0, ts, rfl, h0, h⟩ := fits_cons h
  obtain ⟨t1, ts, rfl, h1, h⟩ := fits_cons h
  obtain ⟨t2, ts, rfl, h2, h⟩ := fits_cons h
  obtain ⟨t3, ts, rfl, h3, h⟩ := fits_cons h
  obtain ⟨t4, ts, rfl, h4, h⟩ := fits_cons h
  obtain rfl := fits_nil h
  show [.lit (.int .i64 (gi t0)), .lit (.bool (gb t1)), .lit (.bool (gb t2)), .lit (.bool (gb t3)), .lit (.int .i64 (gi t4))] = [t0, t1, t2, t3, t4]
  rw [fit_int h0, fit_bool h1, fit_bool h2, fit_bool h3, fit_int h4]
def enc_l_Contact (x : List Contact) : List (TreeOf TI Car) := [.sl ⟨.t_Contact, x⟩]
def dec_l_Contact (ts : List (TreeOf TI Car)) : List Contact := gl (Car := Car) .t_Contact (tx ts 0)
theorem fit_l_Contact (x : List Contact) : fits (shp .l_Contact) (enc_l_Contact x) = true := rfl
theorem ed_l_Contact (ts : List (TreeOf TI Car)) (h : fits (shp .l_Contact) ts = true) : enc_l_Contact (dec_l_Contact ts) = ts := by
  obtain ⟨t0, ts, rfl, h0, h⟩ := fits_cons h
  obtain rfl := fits_nil h
  show [.sl ⟨.t_Contact, gl .t_Contact t0⟩] = [t0]
  rw [fit_sl h0]
def enc_t_Chain (x : Chain) : List (TreeOf TI Car) := [.sl ⟨.t_Contact, x.Contacts⟩, .lit (.int .i64 x.Key)]
def dec_t_Chain (ts : List (TreeOf TI Car)) : Chain := ⟨gl (Car := Car) .t_Contact (tx ts 0), gi (tx ts 1)⟩
theorem fit_t_Chain (x : Chain) : fits (shp .t_Chain) (enc_t_Chain x) = true := rfl
theorem ed_t_Chain (ts : List (TreeOf TI Car)) (h : fits (shp .t_Chain) ts = true) : enc_t_Chain (dec_t_Chain ts) = ts := by
  obtain ⟨t0, ts, rfl, h0, h⟩ := fits_cons h
  obtain ⟨t1, ts, rfl, h1, h⟩ := fits_cons h
  obtain rfl := fits_nil h
  show [.sl ⟨.t_Contact, gl .t_Contact t0⟩, .lit (.int .i64 (gi t1))] = [t0, t1]
  rw [fit_sl h0, fit_int h1]
def enc_t_Alarm (x : Alarm) : List (TreeOf TI Car) := [.lit (.int .i64 x.On), .lit (.int .i64 x.Off), .lit (.int .i64 x.Hold), .lit (.bool x.Active), .lit (.int .i64 x.Low)]
def dec_t_Alarm (ts : List (TreeOf TI Car)) : Alarm := ⟨gi (tx ts 0), gi (tx ts 1), gi (tx ts 2), gb (tx ts 3), gi (tx ts 4)⟩
theorem fit_t_Alarm (x : Alarm) : fits (shp .t_Alarm) (enc_t_Alarm x) = true := rfl
theorem ed_t_Alarm (ts : List (TreeOf TI Car)) (h : fits (shp .t_Alarm) ts = true) : enc_t_Alarm (dec_t_Alarm ts) = ts := by
  obtain ⟨t0, ts, rfl, h0, h⟩ := fits_cons h
  obtain ⟨t1, ts, rfl, h1, h⟩ := fits_cons h
  obtain ⟨t2, ts, rfl, h2, h⟩ := fits_cons h
  obtain ⟨t3, ts, rfl, h3, h⟩ := fits_cons h
  obtain ⟨t4, ts, rfl, h4, h⟩ := fits_cons h
  obtain rfl := fits_nil h
  show [.lit (.int .i64 (gi t0)), .lit (.int .i64 (gi t1)), .lit (.int .i64 (gi t2)), .lit (.bool (gb t3)), .lit (.int .i64 (gi t4))] = [t0, t1, t2, t3, t4]
  rw [fit_int h0, fit_int h1, fit_int h2, fit_bool h3, fit_int h4]
def enc_l_i64 (x : List Int) : List (TreeOf TI Car) := [.sl ⟨.t_i64, x⟩]
def dec_l_i64 (ts : List (TreeOf TI Car)) : List Int := gl (Car := Car) .t_i64 (tx ts 0)
theorem fit_l_i64 (x : List Int) : fits (shp .l_i64) (enc_l_i64 x) = true := rfl
theorem ed_l_i64 (ts : List (TreeOf TI Car)) (h : fits (shp .l_i64) ts = true) : enc_l_i64 (dec_l_i64 ts) = ts := by
  obtain ⟨t0, ts, rfl, h0, h⟩ := fits_cons h
  obtain rfl := fits_nil h
  show [.sl ⟨.t_i64, gl .t_i64 t0⟩] = [t0]
  rw [fit_sl h0]
def enc_t_Sign (x : Sign) : List (TreeOf TI Car) := [.lit (.int .i64 x.Item), .lit (.int .i64 x.By), .lit (.int .i64 x.At)]
def dec_t_Sign (ts : List (TreeOf TI Car)) : Sign := ⟨gi (tx ts 0), gi (tx ts 1), gi (tx ts 2)⟩
theorem fit_t_Sign (x : Sign) : fits (shp .t_Sign) (enc_t_Sign x) = true := rfl
theorem ed_t_Sign (ts : List (TreeOf TI Car)) (h : fits (shp .t_Sign) ts = true) : enc_t_Sign (dec_t_Sign ts) = ts := by
  obtain ⟨t0, ts, rfl, h0, h⟩ := fits_cons h
  obtain ⟨t1, ts, rfl, h1, h⟩ := fits_cons h
  obtain ⟨t2, ts, rfl, h2, h⟩ := fits_cons h
  obtain rfl := fits_nil h
  show [.lit (.int .i64 (gi t0)), .lit (.int .i64 (gi t1)), .lit (.int .i64 (gi t2))] = [t0, t1, t2]
  rw [fit_int h0, fit_int h1, fit_int h2]
def enc_l_Sign (x : List Sign) : List (TreeOf TI Car) := [.sl ⟨.t_Sign, x⟩]
def dec_l_Sign (ts : List (TreeOf TI Car)) : List Sign := gl (Car := Car) .t_Sign (tx ts 0)
theorem fit_l_Sign (x : List Sign) : fits (shp .l_Sign) (enc_l_Sign x) = true := rfl
theorem ed_l_Sign (ts : List (TreeOf TI Car)) (h : fits (shp .l_Sign) ts = true) : enc_l_Sign (dec_l_Sign ts) = ts := by
  obtain ⟨t0, ts, rfl, h0, h⟩ := fits_cons h
  obtain rfl := fits_nil h
  show [.sl ⟨.t_Sign, gl .t_Sign t0⟩] = [t0]
  rw [fit_sl h0]
def enc_t_Checklist (x : Checklist) : List (TreeOf TI Car) := [.sl ⟨.t_i64, x.Items⟩, .lit (.int .i64 x.Every), .sl ⟨.t_Sign, x.Signs⟩]
def dec_t_Checklist (ts : List (TreeOf TI Car)) : Checklist := ⟨gl (Car := Car) .t_i64 (tx ts 0), gi (tx ts 1), gl (Car := Car) .t_Sign (tx ts 2)⟩
theorem fit_t_Checklist (x : Checklist) : fits (shp .t_Checklist) (enc_t_Checklist x) = true := rfl
theorem ed_t_Checklist (ts : List (TreeOf TI Car)) (h : fits (shp .t_Checklist) ts = true) : enc_t_Checklist (dec_t_Checklist ts) = ts := by
  obtain ⟨t0, ts, rfl, h0, h⟩ := fits_cons h
  obtain ⟨t1, ts, rfl, h1, h⟩ := fits_cons h
  obtain ⟨t2, ts, rfl, h2, h⟩ := fits_cons h
  obtain rfl := fits_nil h
  show [.sl ⟨.t_i64, gl .t_i64 t0⟩, .lit (.int .i64 (gi t1)), .sl ⟨.t_Sign, gl .t_Sign t2⟩] = [t0, t1, t2]
  rw [fit_sl h0, fit_int h1, fit_sl h2]
def enc_t_Make (x : Make) : List (TreeOf TI Car) := [.lit (.int .i64 x.Lift.ID), .lit (.int .i64 x.Lift.Operator), .lit (.int .i64 x.Lift.From), .lit (.int .i64 x.Lift.To), .lit (.int .i64 x.Lift.Length), .lit (.int .i64 x.Lift.Speed), .lit (.int .i64 x.Lift.Seats), .lit (.int .i64 x.Lift.Spacing), .lit (.int .i64 x.Motor.Max), .lit (.int .i64 x.Motor.Up), .lit (.int .i64 x.Motor.Down), .lit (.int .i64 x.Motor.Stop), .sl ⟨.t_Brake, x.Brakes⟩, .sl ⟨.t_Contact, x.Chain.Contacts⟩, .lit (.int .i64 x.Chain.Key), .lit (.int .i64 x.Wind.On), .lit (.int .i64 x.Wind.Off), .lit (.int .i64 x.Wind.Hold), .lit (.bool x.Wind.Active), .lit (.int .i64 x.Wind.Low), .sl ⟨.t_i64, x.Checks.Items⟩, .lit (.int .i64 x.Checks.Every), .sl ⟨.t_Sign, x.Checks.Signs⟩]
def dec_t_Make (ts : List (TreeOf TI Car)) : Make := ⟨⟨gi (tx ts 0), gi (tx ts 1), gi (tx ts 2), gi (tx ts 3), gi (tx ts 4), gi (tx ts 5), gi (tx ts 6), gi (tx ts 7)⟩, ⟨gi (tx ts 8), gi (tx ts 9), gi (tx ts 10), gi (tx ts 11)⟩, gl (Car := Car) .t_Brake (tx ts 12), ⟨gl (Car := Car) .t_Contact (tx ts 13), gi (tx ts 14)⟩, ⟨gi (tx ts 15), gi (tx ts 16), gi (tx ts 17), gb (tx ts 18), gi (tx ts 19)⟩, ⟨gl (Car := Car) .t_i64 (tx ts 20), gi (tx ts 21), gl (Car := Car) .t_Sign (tx ts 22)⟩⟩
theorem fit_t_Make (x : Make) : fits (shp .t_Make) (enc_t_Make x) = true := rfl
theorem ed_t_Make (ts : List (TreeOf TI Car)) (h : fits (shp .t_Make) ts = true) : enc_t_Make (dec_t_Make ts) = ts := by
  obtain ⟨t0, ts, rfl, h0, h⟩ := fits_cons h
  obtain ⟨t1, ts, rfl, h1, h⟩ := fits_cons h
  obtain ⟨t2, ts, rfl, h2, h⟩ := fits_cons h
  obtain ⟨t3, ts, rfl, h3, h⟩ := fits_cons h
  obtain ⟨t4, ts, rfl, h4, h⟩ := fits_cons h
  obtain ⟨t5, ts, rfl, h5, h⟩ := fits_cons h
  obtain ⟨t6, ts, rfl, h6, h⟩ := fits_cons h
  obtain ⟨t7, ts, rfl, h7, h⟩ := fits_cons h
  obtain ⟨t8, ts, rfl, h8, h⟩ := fits_cons h
  obtain ⟨t9, ts, rfl, h9, h⟩ := fits_cons h
  obtain ⟨t10, ts, rfl, h10, h⟩ := fits_cons h
  obtain ⟨t11, ts, rfl, h11, h⟩ := fits_cons h
  obtain ⟨t12, ts, rfl, h12, h⟩ := fits_cons h
  obtain ⟨t13, ts, rfl, h13, h⟩ := fits_cons h
  obtain ⟨t14, ts, rfl, h14, h⟩ := fits_cons h
  obtain ⟨t15, ts, rfl, h15, h⟩ := fits_cons h
  obtain ⟨t16, ts, rfl, h16, h⟩ := fits_cons h
  obtain ⟨t17, ts, rfl, h17, h⟩ := fits_cons h
  obtain ⟨t18, ts, rfl, h18, h⟩ := fits_cons h
  obtain ⟨t19, ts, rfl, h19, h⟩ := fits_cons h
  obtain ⟨t20, ts, rfl, h20, h⟩ := fits_cons h
  obtain ⟨t21, ts, rfl, h21, h⟩ := fits_cons h
  obtain ⟨t22, ts, rfl, h22, h⟩ := fits_cons h
  obtain rfl := fits_nil h
  show [.lit (.int .i64 (gi t0)), .lit (.int .i64 (gi t1)), .lit (.int .i64 (gi t2)), .lit (.int .i64 (gi t3)), .lit (.int .i64 (gi t4)), .lit (.int .i64 (gi t5)), .lit (.int .i64 (gi t6)), .lit (.int .i64 (gi t7)), .lit (.int .i64 (gi t8)), .lit (.int .i64 (gi t9)), .lit (.int .i64 (gi t10)), .lit (.int .i64 (gi t11)), .sl ⟨.t_Brake, gl .t_Brake t12⟩, .sl ⟨.t_Contact, gl .t_Contact t13⟩, .lit (.int .i64 (gi t14)), .lit (.int .i64 (gi t15)), .lit (.int .i64 (gi t16)), .lit (.int .i64 (gi t17)), .lit (.bool (gb t18)), .lit (.int .i64 (gi t19)), .sl ⟨.t_i64, gl .t_i64 t20⟩, .lit (.int .i64 (gi t21)), .sl ⟨.t_Sign, gl .t_Sign t22⟩] = [t0, t1, t2, t3, t4, t5, t6, t7, t8, t9, t10, t11, t12, t13, t14, t15, t16, t17, t18, t19, t20, t21, t22]
  rw [fit_int h0, fit_int h1, fit_int h2, fit_int h3, fit_int h4, fit_int h5, fit_int h6, fit_int h7, fit_int h8, fit_int h9, fit_int h10, fit_int h11, fit_sl h12, fit_sl h13, fit_int h14, fit_int h15, fit_int h16, fit_int h17, fit_bool h18, fit_int h19, fit_sl h20, fit_int h21, fit_sl h22]
def enc_t_Drive (x : Drive) : List (TreeOf TI Car) := [.lit (.int .i64 x.State), .lit (.int .i64 x.Speed), .lit (.int .i64 x.Target), .lit (.int .i64 x.Moved)]
def dec_t_Drive (ts : List (TreeOf TI Car)) : Drive := ⟨gi (tx ts 0), gi (tx ts 1), gi (tx ts 2), gi (tx ts 3)⟩
theorem fit_t_Drive (x : Drive) : fits (shp .t_Drive) (enc_t_Drive x) = true := rfl
theorem ed_t_Drive (ts : List (TreeOf TI Car)) (h : fits (shp .t_Drive) ts = true) : enc_t_Drive (dec_t_Drive ts) = ts := by
  obtain ⟨t0, ts, rfl, h0, h⟩ := fits_cons h
  obtain ⟨t1, ts, rfl, h1, h⟩ := fits_cons h
  obtain ⟨t2, ts, rfl, h2, h⟩ := fits_cons h
  obtain ⟨t3, ts, rfl, h3, h⟩ := fits_cons h
  obtain rfl := fits_nil h
  show [.lit (.int .i64 (gi t0)), .lit (.int .i64 (gi t1)), .lit (.int .i64 (gi t2)), .lit (.int .i64 (gi t3))] = [t0, t1, t2, t3]
  rw [fit_int h0, fit_int h1, fit_int h2, fit_int h3]
def enc_t_Line (x : Line) : List (TreeOf TI Car) := [.lit (.int .i64 x.Loop), .lit (.int .i64 x.Spacing), .lit (.int .i64 x.Offset), .sl ⟨.t_i64, x.Load⟩]
def dec_t_Line (ts : List (TreeOf TI Car)) : Line := ⟨gi (tx ts 0), gi (tx ts 1), gi (tx ts 2), gl (Car := Car) .t_i64 (tx ts 3)⟩
theorem fit_t_Line (x : Line) : fits (shp .t_Line) (enc_t_Line x) = true := rfl
theorem ed_t_Line (ts : List (TreeOf TI Car)) (h : fits (shp .t_Line) ts = true) : enc_t_Line (dec_t_Line ts) = ts := by
  obtain ⟨t0, ts, rfl, h0, h⟩ := fits_cons h
  obtain ⟨t1, ts, rfl, h1, h⟩ := fits_cons h
  obtain ⟨t2, ts, rfl, h2, h⟩ := fits_cons h
  obtain ⟨t3, ts, rfl, h3, h⟩ := fits_cons h
  obtain rfl := fits_nil h
  show [.lit (.int .i64 (gi t0)), .lit (.int .i64 (gi t1)), .lit (.int .i64 (gi t2)), .sl ⟨.t_i64, gl .t_i64 t3⟩] = [t0, t1, t2, t3]
  rw [fit_int h0, fit_int h1, fit_int h2, fit_sl h3]
def enc_t_Queue (x : Queue) : List (TreeOf TI Car) := [.sl ⟨.t_i64, x.Groups⟩, .lit (.int .i64 x.Singles)]
def dec_t_Queue (ts : List (TreeOf TI Car)) : Queue := ⟨gl (Car := Car) .t_i64 (tx ts 0), gi (tx ts 1)⟩
theorem fit_t_Queue (x : Queue) : fits (shp .t_Queue) (enc_t_Queue x) = true := rfl
theorem ed_t_Queue (ts : List (TreeOf TI Car)) (h : fits (shp .t_Queue) ts = true) : enc_t_Queue (dec_t_Queue ts) = ts := by
  obtain ⟨t0, ts, rfl, h0, h⟩ := fits_cons h
  obtain ⟨t1, ts, rfl, h1, h⟩ := fits_cons h
  obtain rfl := fits_nil h
  show [.sl ⟨.t_i64, gl .t_i64 t0⟩, .lit (.int .i64 (gi t1))] = [t0, t1]
  rw [fit_sl h0, fit_int h1]
def enc_t_LiftState (x : LiftState) : List (TreeOf TI Car) := [.lit (.int .i64 x.Lift.ID), .lit (.int .i64 x.Lift.Operator), .lit (.int .i64 x.Lift.From), .lit (.int .i64 x.Lift.To), .lit (.int .i64 x.Lift.Length), .lit (.int .i64 x.Lift.Speed), .lit (.int .i64 x.Lift.Seats), .lit (.int .i64 x.Lift.Spacing), .lit (.int .i64 x.Motor.Max), .lit (.int .i64 x.Motor.Up), .lit (.int .i64 x.Motor.Down), .lit (.int .i64 x.Motor.Stop), .lit (.int .i64 x.Drive.State), .lit (.int .i64 x.Drive.Speed), .lit (.int .i64 x.Drive.Target), .lit (.int .i64 x.Drive.Moved), .sl ⟨.t_Brake, x.Brakes⟩, .sl ⟨.t_Contact, x.Chain.Contacts⟩, .lit (.int .i64 x.Chain.Key), .lit (.int .i64 x.Wind.On), .lit (.int .i64 x.Wind.Off), .lit (.int .i64 x.Wind.Hold), .lit (.bool x.Wind.Active), .lit (.int .i64 x.Wind.Low), .lit (.int .i64 x.Line.Loop), .lit (.int .i64 x.Line.Spacing), .lit (.int .i64 x.Line.Offset), .sl ⟨.t_i64, x.Line.Load⟩, .sl ⟨.t_i64, x.Queue.Groups⟩, .lit (.int .i64 x.Queue.Singles), .sl ⟨.t_i64, x.Checks.Items⟩, .lit (.int .i64 x.Checks.Every), .sl ⟨.t_Sign, x.Checks.Signs⟩, .lit (.int .i64 x.Time), .lit (.int .i64 x.Mode), .lit (.int .i64 x.Up), .lit (.int .i64 x.Off)]
def dec_t_LiftState (ts : List (TreeOf TI Car)) : LiftState := ⟨⟨gi (tx ts 0), gi (tx ts 1), gi (tx ts 2), gi (tx ts 3), gi (tx ts 4), gi (tx ts 5), gi (tx ts 6), gi (tx ts 7)⟩, ⟨gi (tx ts 8), gi (tx ts 9), gi (tx ts 10), gi (tx ts 11)⟩, ⟨gi (tx ts 12), gi (tx ts 13), gi (tx ts 14), gi (tx ts 15)⟩, gl (Car := Car) .t_Brake (tx ts 16), ⟨gl (Car := Car) .t_Contact (tx ts 17), gi (tx ts 18)⟩, ⟨gi (tx ts 19), gi (tx ts 20), gi (tx ts 21), gb (tx ts 22), gi (tx ts 23)⟩, ⟨gi (tx ts 24), gi (tx ts 25), gi (tx ts 26), gl (Car := Car) .t_i64 (tx ts 27)⟩, ⟨gl (Car := Car) .t_i64 (tx ts 28), gi (tx ts 29)⟩, ⟨gl (Car := Car) .t_i64 (tx ts 30), gi (tx ts 31), gl (Car := Car) .t_Sign (tx ts 32)⟩, gi (tx ts 33), gi (tx ts 34), gi (tx ts 35), gi (tx ts 36)⟩
theorem fit_t_LiftState (x : LiftState) : fits (shp .t_LiftState) (enc_t_LiftState x) = true := rfl
theorem ed_t_LiftState (ts : List (TreeOf TI Car)) (h : fits (shp .t_LiftState) ts = true) : enc_t_LiftState (dec_t_LiftState ts) = ts := by
  obtain ⟨t0, ts, rfl, h0, h⟩ := fits_cons h
  obtain ⟨t1, ts, rfl, h1, h⟩ := fits_cons h
  obtain ⟨t2, ts, rfl, h2, h⟩ := fits_cons h
  obtain ⟨t3, ts, rfl, h3, h⟩ := fits_cons h
  obtain ⟨t4, ts, rfl, h4, h⟩ := fits_cons h
  obtain ⟨t5, ts, rfl, h5, h⟩ := fits_cons h
  obtain ⟨t6, ts, rfl, h6, h⟩ := fits_cons h
  obtain ⟨t7, ts, rfl, h7, h⟩ := fits_cons h
  obtain ⟨t8, ts, rfl, h8, h⟩ := fits_cons h
  obtain ⟨t9, ts, rfl, h9, h⟩ := fits_cons h
  obtain ⟨t10, ts, rfl, h10, h⟩ := fits_cons h
  obtain ⟨t11, ts, rfl, h11, h⟩ := fits_cons h
  obtain ⟨t12, ts, rfl, h12, h⟩ := fits_cons h
  obtain ⟨t13, ts, rfl, h13, h⟩ := fits_cons h
  obtain ⟨t14, ts, rfl, h14, h⟩ := fits_cons h
  obtain ⟨t15, ts, rfl, h15, h⟩ := fits_cons h
  obtain ⟨t16, ts, rfl, h16, h⟩ := fits_cons h
  obtain ⟨t17, ts, rfl, h17, h⟩ := fits_cons h
  obtain ⟨t18, ts, rfl, h18, h⟩ := fits_cons h
  obtain ⟨t19, ts, rfl, h19, h⟩ := fits_cons h
  obtain ⟨t20, ts, rfl, h20, h⟩ := fits_cons h
  obtain ⟨t21, ts, rfl, h21, h⟩ := fits_cons h
  obtain ⟨t22, ts, rfl, h22, h⟩ := fits_cons h
  obtain ⟨t23, ts, rfl, h23, h⟩ := fits_cons h
  obtain ⟨t24, ts, rfl, h24, h⟩ := fits_cons h
  obtain ⟨t25, ts, rfl, h25, h⟩ := fits_cons h
  obtain ⟨t26, ts, rfl, h26, h⟩ := fits_cons h
  obtain ⟨t27, ts, rfl, h27, h⟩ := fits_cons h
  obtain ⟨t28, ts, rfl, h28, h⟩ := fits_cons h
  obtain ⟨t29, ts, rfl, h29, h⟩ := fits_cons h
  obtain ⟨t30, ts, rfl, h30, h⟩ := fits_cons h
  obtain ⟨t31, ts, rfl, h31, h⟩ := fits_cons h
  obtain ⟨t32, ts, rfl, h32, h⟩ := fits_cons h
  obtain ⟨t33, ts, rfl, h33, h⟩ := fits_cons h
  obtain ⟨t34, ts, rfl, h34, h⟩ := fits_cons h
  obtain ⟨t35, ts, rfl, h35, h⟩ := fits_cons h
  obtain ⟨t36, ts, rfl, h36, h⟩ := fits_cons h
  obtain rfl := fits_nil h
  show [.lit (.int .i64 (gi t0)), .lit (.int .i64 (gi t1)), .lit (.int .i64 (gi t2)), .lit (.int .i64 (gi t3)), .lit (.int .i64 (gi t4)), .lit (.int .i64 (gi t5)), .lit (.int .i64 (gi t6)), .lit (.int .i64 (gi t7)), .lit (.int .i64 (gi t8)), .lit (.int .i64 (gi t9)), .lit (.int .i64 (gi t10)), .lit (.int .i64 (gi t11)), .lit (.int .i64 (gi t12)), .lit (.int .i64 (gi t13)), .lit (.int .i64 (gi t14)), .lit (.int .i64 (gi t15)), .sl ⟨.t_Brake, gl .t_Brake t16⟩, .sl ⟨.t_Contact, gl .t_Contact t17⟩, .lit (.int .i64 (gi t18)), .lit (.int .i64 (gi t19)), .lit (.int .i64 (gi t20)), .lit (.int .i64 (gi t21)), .lit (.bool (gb t22)), .lit (.int .i64 (gi t23)), .lit (.int .i64 (gi t24)), .lit (.int .i64 (gi t25)), .lit (.int .i64 (gi t26)), .sl ⟨.t_i64, gl .t_i64 t27⟩, .sl ⟨.t_i64, gl .t_i64 t28⟩, .lit (.int .i64 (gi t29)), .sl ⟨.t_i64, gl .t_i64 t30⟩, .lit (.int .i64 (gi t31)), .sl ⟨.t_Sign, gl .t_Sign t32⟩, .lit (.int .i64 (gi t33)), .lit (.int .i64 (gi t34)), .lit (.int .i64 (gi t35)), .lit (.int .i64 (gi t36))] = [t0, t1, t2, t3, t4, t5, t6, t7, t8, t9, t10, t11, t12, t13, t14, t15, t16, t17, t18, t19, t20, t21, t22, t23, t24, t25, t26, t27, t28, t29, t30, t31, t32, t33, t34, t35, t36]
  rw [fit_int h0, fit_int h1, fit_int h2, fit_int h3, fit_int h4, fit_int h5, fit_int h6, fit_int h7, fit_int h8, fit_int h9, fit_int h10, fit_int h11, fit_int h12, fit_int h13, fit_int h14, fit_int h15, fit_sl h16, fit_sl h17, fit_int h18, fit_int h19, fit_int h20, fit_int h21, fit_bool h22, fit_int h23, fit_int h24, fit_int h25, fit_int h26, fit_sl h27, fit_sl h28, fit_int h29, fit_sl h30, fit_int h31, fit_sl h32, fit_int h33, fit_int h34, fit_int h35, fit_int h36]
def enc_t_LiftEvent (x : LiftEvent) : List (TreeOf TI Car) := [.lit (.int .i64 x.Kind), .lit (.int .i64 x.N), .lit (.int .i64 x.M), .lit (.int .i64 x.By)]
def dec_t_LiftEvent (ts : List (TreeOf TI Car)) : LiftEvent := ⟨gi (tx ts 0), gi (tx ts 1), gi (tx ts 2), gi (tx ts 3)⟩
theorem fit_t_LiftEvent (x : LiftEvent) : fits (shp .t_LiftEvent) (enc_t_LiftEvent x) = true := rfl
theorem ed_t_LiftEvent (ts : List (TreeOf TI Car)) (h : fits (shp .t_LiftEvent) ts = true) : enc_t_LiftEvent (dec_t_LiftEvent ts) = ts := by
  obtain ⟨t0, ts, rfl, h0, h⟩ := fits_cons h
  obtain ⟨t1, ts, rfl, h1, h⟩ := fits_cons h
  obtain ⟨t2, ts, rfl, h2, h⟩ := fits_cons h
  obtain ⟨t3, ts, rfl, h3, h⟩ := fits_cons h
  obtain rfl := fits_nil h
  show [.lit (.int .i64 (gi t0)), .lit (.int .i64 (gi t1)), .lit (.int .i64 (gi t2)), .lit (.int .i64 (gi t3))] = [t0, t1, t2, t3]
  rw [fit_int h0, fit_int h1, fit_int h2, fit_int h3]
def enc_l_LiftEvent (x : List LiftEvent) : List (TreeOf TI Car) := [.sl ⟨.t_LiftEvent, x⟩]
def dec_l_LiftEvent (ts : List (TreeOf TI Car)) : List LiftEvent := gl (Car := Car) .t_LiftEvent (tx ts 0)
theorem fit_l_LiftEvent (x : List LiftEvent) : fits (shp .l_LiftEvent) (enc_l_LiftEvent x) = true := rfl
theorem ed_l_LiftEvent (ts : List (TreeOf TI Car)) (h : fits (shp .l_LiftEvent) ts = true) : enc_l_LiftEvent (dec_l_LiftEvent ts) = ts := by
  obtain ⟨t0, ts, rfl, h0, h⟩ := fits_cons h
  obtain rfl := fits_nil h
  show [.sl ⟨.t_LiftEvent, gl .t_LiftEvent t0⟩] = [t0]
  rw [fit_sl h0]
def enc : (e : TI) → Car e → List (TreeOf TI Car)
  | .t_i64 => enc_t_i64
  | .t_Lift => enc_t_Lift
  | .t_Motor => enc_t_Motor
  | .t_Brake => enc_t_Brake
  | .l_Brake => enc_l_Brake
  | .t_bool => enc_t_bool
  | .t_Contact => enc_t_Contact
  | .l_Contact => enc_l_Contact
  | .t_Chain => enc_t_Chain
  | .t_Alarm => enc_t_Alarm
  | .l_i64 => enc_l_i64
  | .t_Sign => enc_t_Sign
  | .l_Sign => enc_l_Sign
  | .t_Checklist => enc_t_Checklist
  | .t_Make => enc_t_Make
  | .t_Drive => enc_t_Drive
  | .t_Line => enc_t_Line
  | .t_Queue => enc_t_Queue
  | .t_LiftState => enc_t_LiftState
  | .t_LiftEvent => enc_t_LiftEvent
  | .l_LiftEvent => enc_l_LiftEvent
def dec : (e : TI) → List (TreeOf TI Car) → Car e
  | .t_i64 => dec_t_i64
  | .t_Lift => dec_t_Lift
  | .t_Motor => dec_t_Motor
  | .t_Brake => dec_t_Brake
  | .l_Brake => dec_l_Brake
  | .t_bool => dec_t_bool
  | .t_Contact => dec_t_Contact
  | .l_Contact => dec_l_Contact
  | .t_Chain => dec_t_Chain
  | .t_Alarm => dec_t_Alarm
  | .l_i64 => dec_l_i64
  | .t_Sign => dec_t_Sign
  | .l_Sign => dec_l_Sign
  | .t_Checklist => dec_t_Checklist
  | .t_Make => dec_t_Make
  | .t_Drive => dec_t_Drive
  | .t_Line => dec_t_Line
  | .t_Queue => dec_t_Queue
  | .t_LiftState => dec_t_LiftState
  | .t_LiftEvent => dec_t_LiftEvent
  | .l_LiftEvent => dec_l_LiftEvent
def isAg : TI → Bool
  | .t_i64 => false
  | .t_Lift => true
  | .t_Motor => true
  | .t_Brake => true
  | .l_Brake => false
  | .t_bool => false
  | .t_Contact => true
  | .l_Contact => false
  | .t_Chain => true
  | .t_Alarm => true
  | .l_i64 => false
  | .t_Sign => true
  | .l_Sign => false
  | .t_Checklist => true
  | .t_Make => true
  | .t_Drive => true
  | .t_Line => true
  | .t_Queue => true
  | .t_LiftState => true
  | .t_LiftEvent => true
  | .l_LiftEvent => false
def ofT : TypeId → Option TI
  | 3 => some .t_i64
  | 4 => some .t_bool
  | 23 => some .t_Lift
  | 25 => some .t_Motor
  | 26 => some .l_Brake
  | 27 => some .l_Contact
  | 29 => some .t_Chain
  | 31 => some .t_Alarm
  | 32 => some .l_i64
  | 33 => some .l_Sign
  | 35 => some .t_Checklist
  | 37 => some .t_Make
  | 41 => some .t_Drive
  | 43 => some .t_Line
  | 45 => some .t_Queue
  | 47 => some .t_LiftState
  | 48 => some .t_i64
  | 55 => some .t_LiftEvent
  | 60 => some .l_LiftEvent
  | 89 => some .t_Brake
  | 92 => some .t_Contact
  | 97 => some .t_Sign
  | _ => none
instance sig : Sig where
  TI := TI
  deq := inferInstance
  Car := Car
  dft := dft
  shp := shp
  isAgg := isAg
  enc := enc
  dec := dec
  ofId := ofT
  enc_fits := fun e => match e with
    | .t_i64 => fit_t_i64
    | .t_Lift => fit_t_Lift
    | .t_Motor => fit_t_Motor
    | .t_Brake => fit_t_Brake
    | .l_Brake => fit_l_Brake
    | .t_bool => fit_t_bool
    | .t_Contact => fit_t_Contact
    | .l_Contact => fit_l_Contact
    | .t_Chain => fit_t_Chain
    | .t_Alarm => fit_t_Alarm
    | .l_i64 => fit_l_i64
    | .t_Sign => fit_t_Sign
    | .l_Sign => fit_l_Sign
    | .t_Checklist => fit_t_Checklist
    | .t_Make => fit_t_Make
    | .t_Drive => fit_t_Drive
    | .t_Line => fit_t_Line
    | .t_Queue => fit_t_Queue
    | .t_LiftState => fit_t_LiftState
    | .t_LiftEvent => fit_t_LiftEvent
    | .l_LiftEvent => fit_l_LiftEvent
  enc_dec := fun e => match e with
    | .t_i64 => ed_t_i64
    | .t_Lift => ed_t_Lift
    | .t_Motor => ed_t_Motor
    | .t_Brake => ed_t_Brake
    | .l_Brake => ed_l_Brake
    | .t_bool => ed_t_bool
    | .t_Contact => ed_t_Contact
    | .l_Contact => ed_l_Contact
    | .t_Chain => ed_t_Chain
    | .t_Alarm => ed_t_Alarm
    | .l_i64 => ed_l_i64
    | .t_Sign => ed_t_Sign
    | .l_Sign => ed_l_Sign
    | .t_Checklist => ed_t_Checklist
    | .t_Make => ed_t_Make
    | .t_Drive => ed_t_Drive
    | .t_Line => ed_t_Line
    | .t_Queue => ed_t_Queue
    | .t_LiftState => ed_t_LiftState
    | .t_LiftEvent => ed_t_LiftEvent
    | .l_LiftEvent => ed_l_LiftEvent
theorem mixed : Tryz.prog.follows .mixedOrders = true := by kernel_rfl
end Go.Proofs.YthjmbcnohgaihaaGreat
