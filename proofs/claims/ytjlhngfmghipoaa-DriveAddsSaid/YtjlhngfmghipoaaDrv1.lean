/- The drive of a lift (layer 14): what its functions compute, as plain functions. No condition. -/
import Derived.Test.YtjlhngfmghipoaaAmb
import Derived.Test.YtjlhngfmghipoaaRows
namespace Go.Proofs.Ytjlhngfmghipoaa
open Go.Am Go.Proofs

theorem mixed : Try.prog.follows .mixedOrders = true := by kernel_rfl

structure Motor where
  mx : Int
  up : Int
  dn : Int
  st : Int
structure Drive where
  st : Int
  sp : Int
  tg : Int
  mv : Int
def Motor.cs (m : Motor) : List AV := [I m.mx, I m.up, I m.dn, I m.st]
def Drive.cs (d : Drive) : List AV := [I d.st, I d.sp, I d.tg, I d.mv]
def Motor.av (m : Motor) : AV := .agg [I m.mx, I m.up, I m.dn, I m.st]
def Drive.av (d : Drive) : AV := .agg [I d.st, I d.sp, I d.tg, I d.mv]
def toM : AV → Option Motor
  | .agg [.lit (.int _ a), .lit (.int _ b), .lit (.int _ c), .lit (.int _ d)] => some ⟨a, b, c, d⟩
  | _ => none
def toD : AV → Option Drive
  | .agg [.lit (.int _ a), .lit (.int _ b), .lit (.int _ c), .lit (.int _ d)] => some ⟨a, b, c, d⟩
  | _ => none
def toI : AV → Option Int
  | .lit (.int _ a) => some a
  | _ => none

def within (n a b : Int) : Bool := decide (a ≤ n) && decide (n ≤ b)
def right (m : Motor) : Bool := within m.mx 500 12000 && (within m.up 50 2000 && (within m.dn 50 2000 && within m.st m.dn 5000))
def valid (m : Motor) (d : Drive) : Bool :=
  within d.st 0 3 && (within d.sp 0 m.mx && (within d.mv 0 1125899906842624 && ((d.st != 0 || d.sp == 0) && (if d.st = 1 then within d.tg 1 m.mx else d.tg == 0))))
def next (m : Motor) (d : Drive) : Int :=
  if d.st = 1 then (if d.sp < d.tg then min (d.sp + m.up) d.tg else max (d.sp - m.dn) d.tg)
  else if d.st = 2 then max (d.sp - m.dn) 0 else if d.st = 3 then max (d.sp - m.st) 0 else d.sp
def sec (m : Motor) (d : Drive) : Drive :=
  ⟨if d.st = 2 ∧ next m d = 0 then 0 else d.st, next m d, d.tg, (d.mv + next m d) % 1125899906842625⟩
def secs (m : Motor) (d : Drive) : Nat → Drive
  | 0 => d
  | k + 1 => sec m (secs m d k)
def cap (n : Int) : Nat := (min (max n 0) 3600).toNat
def step (m : Motor) (d : Drive) (n : Int) : Drive := secs m d (cap n)
def zeroD : Drive := ⟨0, 0, 0, 0⟩
def start (m : Motor) (d : Drive) (t : Int) : Drive × Int :=
  if d.st = 2 ∨ d.st = 3 then (zeroD, 10) else if within t 1 m.mx then (⟨1, d.sp, t, d.mv⟩, 0) else (zeroD, 2)
def halt (d : Drive) : Drive := if d.st = 1 then ⟨2, d.sp, 0, d.mv⟩ else d
def emer (d : Drive) : Drive := ⟨3, d.sp, 0, d.mv⟩
def rst (d : Drive) : Drive × Int := if d.st = 3 ∧ d.sp = 0 then (⟨0, 0, d.tg, d.mv⟩, 0) else (zeroD, 10)
/-- the sum of v - s, v - 2 s, .. as long as they are positive; f: enough rounds -/
def dist (s : Int) : Nat → Int → Int
  | 0, _ => 0
  | f + 1, v => if v - s > 0 then (v - s) + dist s f (v - s) else 0
def distance (m : Motor) (d : Drive) : Int := dist m.st 300 d.sp
def far (a b : Drive) : Int := if b.mv - a.mv < 0 then b.mv - a.mv + 1125899906842625 else b.mv - a.mv

def two (d : Drive) (e : Int) : AV := .tup [.agg [I d.st, I d.sp, I d.tg, I d.mv], I e]
def oneD (d : Drive) : AV := .agg [I d.st, I d.sp, I d.tg, I d.mv]
def Γ (f : FuncId) (args : List AV) : Option AV :=
  match f, args with
  | 30, [.lit (.int _ n), .lit (.int _ a), .lit (.int _ b)] => some (Bo (within n a b))
  | 31, [m, d] => do some (I (next (← toM m) (← toD d)))
  | 32, [m, d] => do some (I (next (← toM m) (← toD d)))
  | 11, [m] => do some (Bo (right (← toM m)))
  | 12, [m] => do some (Bo (right (← toM m)))
  | 13, [m, d] => do some (Bo (valid (← toM m) (← toD d)))
  | 14, [m, d] => do some (Bo (valid (← toM m) (← toD d)))
  | 15, [m, d] => do some (Bo (right (← toM m) && valid (← toM m) (← toD d)))
  | 16, [m, d, t] => do some (two (start (← toM m) (← toD d) (← toI t)).1 (start (← toM m) (← toD d) (← toI t)).2)
  | 17, [m, d, t] => do some (two (start (← toM m) (← toD d) (← toI t)).1 (start (← toM m) (← toD d) (← toI t)).2)
  | 20, [_, d] => do some (oneD (halt (← toD d)))
  | 21, [_, d] => do some (oneD (halt (← toD d)))
  | 22, [_, d] => do some (oneD (emer (← toD d)))
  | 23, [_, d] => do some (oneD (emer (← toD d)))
  | 18, [_, d] => do some (two (rst (← toD d)).1 (rst (← toD d)).2)
  | 19, [_, d] => do some (two (rst (← toD d)).1 (rst (← toD d)).2)
  | 24, [m, d, n] => do some (oneD (step (← toM m) (← toD d) (← toI n)))
  | 25, [m, d, n] => do some (oneD (step (← toM m) (← toD d) (← toI n)))
  | 26, [m, d] => do some (I (distance (← toM m) (← toD d)))
  | 27, [m, d] => do some (I (distance (← toM m) (← toD d)))
  | 28, [a, b] => do some (I (far (← toD a) (← toD b)))
  | 29, [] => some (.agg [I 5000, I 400, I 500, I 1500])
  | 10, [] => some (Bo true)
  | _, _ => none
end Go.Proofs.Ytjlhngfmghipoaa
