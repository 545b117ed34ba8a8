/- Written by a program (vcgen.py): what each function computes, as an equation that the kernel checks. No condition. -/
import Derived.Test.YtjlhngfmghipoaaDrv1
import Derived.KernelRfl
namespace Go.Proofs.Ytjlhngfmghipoaa
open Go.Am Go.Proofs
def kp3 : List (Nat × List Nat) := [(0, [2, 3]), (1, [2, 3, 6]), (2, [4]), (3, [4])]
def kp4 : List (Nat × List Nat) := [(0, [2, 3, 4]), (1, [2, 3, 4, 16]), (2, [6]), (3, [2, 3, 4, 20]), (4, [6]), (5, [2, 3, 4, 7, 8]), (6, [3, 4, 7, 8, 9, 10]), (7, [3, 4, 7, 8, 9, 10, 11, 12]), (8, [3, 4, 7, 8, 9, 10, 11, 12, 13, 14]), (9, [6])]
def kp5 : List (Nat × List Nat) := [(0, [2, 3, 4]), (1, [2, 3, 4, 8]), (2, [6]), (3, [6])]
def kp6 : List (Nat × List Nat) := [(0, [2, 3, 4]), (1, [2, 3, 4, 14]), (2, [6]), (3, [2, 3, 4, 22]), (4, [6]), (5, [2, 3, 4, 7]), (6, [2, 3, 4, 7, 8]), (7, [2, 3, 4, 7, 8, 9]), (8, [2, 3, 4, 7, 8, 9, 10]), (9, [2, 3, 4, 7, 8, 9, 10, 36]), (10, [2, 3, 4, 7, 8, 9, 10]), (11, [2, 3, 4, 7, 8, 9, 10, 11]), (12, [2, 3, 4, 7, 8, 9, 10, 11, 86]), (13, [6]), (14, [2, 3, 4, 7, 8, 9, 10]), (15, [3, 4, 7, 8, 12]), (16, [6])]
def kp7 : List (Nat × List Nat) := [(0, [2, 3]), (1, [2, 3, 10]), (2, [4]), (3, [2, 3, 14]), (4, [4]), (5, [2, 3, 5]), (6, [2, 3, 5, 6]), (7, [2, 3, 5, 6, 7]), (8, [2, 3, 5, 85]), (9, [4]), (10, [2, 3, 5, 88]), (11, [4]), (12, [3, 5, 8]), (13, [4])]
def kp8 : List (Nat × List Nat) := [(0, [3, 4, 5]), (1, [3, 4, 5, 10]), (2, [6]), (3, [3, 4, 5, 14]), (4, [6]), (5, [3, 4, 5, 7, 8]), (6, [3, 4, 7, 8, 39]), (7, [6]), (8, [6])]
def kp10 : List (Nat × List Nat) := [(0, []), (1, [1]), (2, [1, 2, 3]), (3, [1, 3, 4]), (4, [1, 3, 4, 5]), (5, [1, 3, 4, 5, 6]), (6, [1, 3, 4, 5, 6, 7]), (7, [1, 3, 4, 5, 6, 7, 8, 9]), (8, [1, 3, 4, 5, 6, 7, 8, 9, 11]), (9, [4, 5, 7, 8, 80]), (10, [0]), (11, [0])]
def kp11 : List (Nat × List Nat) := [(0, [1]), (1, [2])]
def kp12 : List (Nat × List Nat) := [(0, [1]), (1, [2])]
def kp13 : List (Nat × List Nat) := [(0, [2, 3]), (1, [2, 3, 22]), (2, [4]), (3, [2, 3, 30]), (4, [4]), (5, [2, 3, 33]), (6, [4]), (7, [4])]
def kp14 : List (Nat × List Nat) := [(0, [2, 3]), (1, [2, 3, 34]), (2, [4]), (3, [2, 3, 42]), (4, [4]), (5, [2, 3, 45]), (6, [4]), (7, [4])]
def kp15 : List (Nat × List Nat) := [(0, [2, 3]), (1, [4])]
def kp16 : List (Nat × List Nat) := [(0, [2, 3, 4, 6]), (1, [2, 3, 4, 6, 15]), (2, [6, 7]), (3, [2, 4, 6, 21]), (4, [6, 7]), (5, [4, 6]), (6, [6, 7])]
def kp17 : List (Nat × List Nat) := [(0, [2, 3, 4, 6]), (1, [2, 3, 4, 6, 15]), (2, [6, 7]), (3, [2, 4, 6, 24]), (4, [6, 7]), (5, [2, 4, 6]), (6, [4, 6]), (7, [6, 7])]
def kp18 : List (Nat × List Nat) := [(0, [3, 4]), (1, [3, 4, 13]), (2, [4, 5]), (3, [3, 4]), (4, [4, 5])]
def kp19 : List (Nat × List Nat) := [(0, [3, 4]), (1, [3, 4, 13]), (2, [4, 5]), (3, [3, 4]), (4, [4, 5])]
def kp20 : List (Nat × List Nat) := [(0, [3, 4]), (1, [3, 4, 7]), (2, [3, 4]), (3, [4])]
def kp21 : List (Nat × List Nat) := [(0, [3, 4]), (1, [3, 4, 7]), (2, [3, 4]), (3, [3, 4]), (4, [4])]
def kp22 : List (Nat × List Nat) := [(0, [3, 4]), (1, [3, 4]), (2, [4])]
def kp23 : List (Nat × List Nat) := [(0, [3, 4]), (1, [3, 4]), (2, [3, 4]), (3, [4])]
def kp24 : List (Nat × List Nat) := [(0, [2, 3, 4, 6]), (1, [3, 4, 6, 9, 10]), (2, [3, 4, 6, 9, 10, 11]), (3, [3, 4, 6, 9, 10]), (4, [3, 4, 6, 9, 10]), (5, [3, 4, 6, 9, 10, 30]), (6, [3, 4, 6, 9, 10]), (7, [3, 4, 6, 9, 10]), (8, [6])]
def kp25 : List (Nat × List Nat) := [(0, [2, 3, 4, 6]), (1, [2, 3, 4, 6, 7]), (2, [2, 3, 4, 6, 7, 14]), (3, [2, 3, 4, 6, 7]), (4, [2, 3, 4, 6, 7]), (5, [2, 3, 4, 6, 7]), (6, [2, 3, 4, 6, 7, 35]), (7, [2, 3, 4, 6, 7]), (8, [6])]
def kp26 : List (Nat × List Nat) := [(0, [2, 3]), (1, [2, 3, 5]), (2, [2, 3, 5]), (3, [2, 3, 5, 16]), (4, [2, 3, 5]), (5, [2, 3, 5]), (6, [4])]
def kp27 : List (Nat × List Nat) := [(0, [2, 3]), (1, [2, 3, 5]), (2, [2, 5, 6]), (3, [2, 5, 6, 13]), (4, [2, 5, 6]), (5, [2, 5, 6]), (6, [4])]
def kp28 : List (Nat × List Nat) := [(0, [2, 3]), (1, [5]), (2, [5, 12]), (3, [5]), (4, [4])]
def kp29 : List (Nat × List Nat) := [(0, [0]), (1, [0])]
def kp30 : List (Nat × List Nat) := [(0, [0, 1, 2]), (1, [6])]
def kp31 : List (Nat × List Nat) := [(0, [2, 3]), (1, [2, 3, 6]), (2, [2, 3, 6, 7]), (3, [2, 3, 13]), (4, [4]), (5, [4]), (6, [2, 3, 6, 30]), (7, [4]), (8, [2, 3, 38]), (9, [4]), (10, [4])]
def kp32 : List (Nat × List Nat) := [(0, [2, 3]), (1, [2, 3, 14]), (2, [4]), (3, [2, 3, 25]), (4, [4]), (5, [2, 3, 36]), (6, [4]), (7, [2, 3, 45]), (8, [4]), (9, [4])]

theorem vc_within (n a b : Int) (r : AV) : (bodyEv Γ Try.prog Try.f30 kp30 [I n, I a, I b] r) =
  (br (decide (a ≤ n)) (some (Bo (decide (n ≤ b))) = some r) (some (Bo false) = some r)) := by kernel_rfl

theorem en_within (n a b : Int) (r : AV) (h : bodyEv Γ Try.prog Try.f30 kp30 [I n, I a, I b] r) : Den Try.prog 30 [I n, I a, I b] r :=
  den_of_ev mixed Try.func30 (by kernel_rfl) (by kernel_rfl) (Nat.le_of_ble_eq_true (by kernel_rfl)) h

theorem vc_next (m : Motor) (d : Drive) (r : AV) : (bodyEv Γ Try.prog Try.f31 kp31 [m.av, d.av] r) =
  (br (d.st == (1 : Int))
  (br (decide (d.sp < d.tg)) (some (I (min (IntKind.wrap IntKind.i64 (d.sp + m.up)) d.tg)) = some r)
    (some (I (max (IntKind.wrap IntKind.i64 (d.sp - m.dn)) d.tg)) = some r))
  (br (d.st == (2 : Int)) (some (I (max (IntKind.wrap IntKind.i64 (d.sp - m.dn)) (0 : Int))) = some r)
    (br (d.st == (3 : Int)) (some (I (max (IntKind.wrap IntKind.i64 (d.sp - m.st)) (0 : Int))) = some r)
      (some (I d.sp) = some r)))) := by kernel_rfl

theorem en_next (m : Motor) (d : Drive) (r : AV) (h : bodyEv Γ Try.prog Try.f31 kp31 [m.av, d.av] r) : Den Try.prog 31 [m.av, d.av] r :=
  den_of_ev mixed Try.func31 (by kernel_rfl) (by kernel_rfl) (Nat.le_of_ble_eq_true (by kernel_rfl)) h

theorem vc_speed (m : Motor) (d : Drive) (r : AV) : (bodyEv Γ Try.prog Try.f32 kp32 [m.av, d.av] r) =
  (br (d.st == (1 : Int))
  (br (decide (d.sp < d.tg)) (some (I (min (IntKind.wrap IntKind.i64 (d.sp + m.up)) d.tg)) = some r)
    (br (d.st == (1 : Int)) (some (I (max (IntKind.wrap IntKind.i64 (d.sp - m.dn)) d.tg)) = some r)
      (br (d.st == (2 : Int)) (some (I (max (IntKind.wrap IntKind.i64 (d.sp - m.dn)) (0 : Int))) = some r)
        (br (d.st == (3 : Int)) (some (I (max (IntKind.wrap IntKind.i64 (d.sp - m.st)) (0 : Int))) = some r)
          (some (I d.sp) = some r)))))
  (br (d.st == (1 : Int)) (some (I (max (IntKind.wrap IntKind.i64 (d.sp - m.dn)) d.tg)) = some r)
    (br (d.st == (2 : Int)) (some (I (max (IntKind.wrap IntKind.i64 (d.sp - m.dn)) (0 : Int))) = some r)
      (br (d.st == (3 : Int)) (some (I (max (IntKind.wrap IntKind.i64 (d.sp - m.st)) (0 : Int))) = some r)
        (some (I d.sp) = some r))))) := by kernel_rfl

theorem en_speed (m : Motor) (d : Drive) (r : AV) (h : bodyEv Γ Try.prog Try.f32 kp32 [m.av, d.av] r) : Den Try.prog 32 [m.av, d.av] r :=
  den_of_ev mixed Try.func32 (by kernel_rfl) (by kernel_rfl) (Nat.le_of_ble_eq_true (by kernel_rfl)) h

theorem vc_dRight (m : Motor) (r : AV) : (bodyEv Γ Try.prog Try.f11 kp11 [m.av] r) =
  (Den Try.prog 30 [I m.mx, I (500 : Int), I (12000 : Int)] (Bo (within m.mx (500 : Int) (12000 : Int))) ∧
  br (within m.mx (500 : Int) (12000 : Int))
    (Den Try.prog 30 [I m.up, I (50 : Int), I (2000 : Int)] (Bo (within m.up (50 : Int) (2000 : Int))) ∧
      br (within m.up (50 : Int) (2000 : Int))
        (Den Try.prog 30 [I m.dn, I (50 : Int), I (2000 : Int)] (Bo (within m.dn (50 : Int) (2000 : Int))) ∧
          br (within m.dn (50 : Int) (2000 : Int))
            (Den Try.prog 30 [I m.st, I m.dn, I (5000 : Int)] (Bo (within m.st m.dn (5000 : Int))) ∧
              some (Bo (within m.st m.dn (5000 : Int))) = some r)
            (some (Bo false) = some r))
        (some (Bo false) = some r))
    (some (Bo false) = some r)) := by kernel_rfl

theorem en_dRight (m : Motor) (r : AV) (h : bodyEv Γ Try.prog Try.f11 kp11 [m.av] r) : Den Try.prog 11 [m.av] r :=
  den_of_ev mixed Try.func11 (by kernel_rfl) (by kernel_rfl) (Nat.le_of_ble_eq_true (by kernel_rfl)) h

theorem vc_rRight (m : Motor) (r : AV) : (bodyEv Γ Try.prog Try.f12 kp12 [m.av] r) =
  (br (decide (m.mx ≥ (500 : Int)))
  (br (decide (m.mx ≤ (12000 : Int)))
    (br (decide (m.up ≥ (50 : Int)))
      (br (decide (m.up ≤ (2000 : Int)))
        (br (decide (m.dn ≥ (50 : Int)))
          (br (decide (m.dn ≤ (2000 : Int)))
            (br (decide (m.st ≥ m.dn)) (some (Bo (decide (m.st ≤ (5000 : Int)))) = some r) (some (Bo false) = some r))
            (some (Bo false) = some r))
          (some (Bo false) = some r))
        (some (Bo false) = some r))
      (some (Bo false) = some r))
    (some (Bo false) = some r))
  (some (Bo false) = some r)) := by kernel_rfl

theorem en_rRight (m : Motor) (r : AV) (h : bodyEv Γ Try.prog Try.f12 kp12 [m.av] r) : Den Try.prog 12 [m.av] r :=
  den_of_ev mixed Try.func12 (by kernel_rfl) (by kernel_rfl) (Nat.le_of_ble_eq_true (by kernel_rfl)) h

theorem vc_dValid (m : Motor) (d : Drive) (r : AV) : (bodyEv Γ Try.prog Try.f13 kp13 [m.av, d.av] r) =
  (Den Try.prog 30 [I d.st, I (0 : Int), I (3 : Int)] (Bo (within d.st (0 : Int) (3 : Int))) ∧
  br (!within d.st (0 : Int) (3 : Int)) (some (Bo false) = some r)
    (Den Try.prog 30 [I d.sp, I (0 : Int), I m.mx] (Bo (within d.sp (0 : Int) m.mx)) ∧
      br (!within d.sp (0 : Int) m.mx) (some (Bo false) = some r)
        (Den Try.prog 30 [I d.mv, I (0 : Int), I (1125899906842624 : Int)]
            (Bo (within d.mv (0 : Int) (1125899906842624 : Int))) ∧
          br (!within d.mv (0 : Int) (1125899906842624 : Int)) (some (Bo false) = some r)
            (br (d.st == (0 : Int))
              (br (d.sp != (0 : Int)) (some (Bo false) = some r)
                (br (d.st == (1 : Int))
                  (Den Try.prog 30 [I d.tg, I (1 : Int), I m.mx] (Bo (within d.tg (1 : Int) m.mx)) ∧
                    some (Bo (within d.tg (1 : Int) m.mx)) = some r)
                  (some (Bo (d.tg == (0 : Int))) = some r)))
              (br (d.st == (1 : Int))
                (Den Try.prog 30 [I d.tg, I (1 : Int), I m.mx] (Bo (within d.tg (1 : Int) m.mx)) ∧
                  some (Bo (within d.tg (1 : Int) m.mx)) = some r)
                (some (Bo (d.tg == (0 : Int))) = some r)))))) := by kernel_rfl

theorem en_dValid (m : Motor) (d : Drive) (r : AV) (h : bodyEv Γ Try.prog Try.f13 kp13 [m.av, d.av] r) : Den Try.prog 13 [m.av, d.av] r :=
  den_of_ev mixed Try.func13 (by kernel_rfl) (by kernel_rfl) (Nat.le_of_ble_eq_true (by kernel_rfl)) h

theorem vc_rValid (m : Motor) (d : Drive) (r : AV) : (bodyEv Γ Try.prog Try.f14 kp14 [m.av, d.av] r) =
  (br (decide (d.st < (0 : Int))) (some (Bo false) = some r)
  (br (decide (d.st > (3 : Int))) (some (Bo false) = some r)
    (br (decide (d.sp < (0 : Int))) (some (Bo false) = some r)
      (br (decide (d.sp > m.mx)) (some (Bo false) = some r)
        (br (decide (d.mv < (0 : Int))) (some (Bo false) = some r)
          (br (decide (d.mv > (1125899906842624 : Int))) (some (Bo false) = some r)
            (br (d.st == (0 : Int))
              (br (d.sp != (0 : Int)) (some (Bo false) = some r)
                (br (d.st == (1 : Int))
                  (br (decide (d.tg ≥ (1 : Int))) (some (Bo (decide (d.tg ≤ m.mx))) = some r)
                    (some (Bo false) = some r))
                  (some (Bo (d.tg == (0 : Int))) = some r)))
              (br (d.st == (1 : Int))
                (br (decide (d.tg ≥ (1 : Int))) (some (Bo (decide (d.tg ≤ m.mx))) = some r) (some (Bo false) = some r))
                (some (Bo (d.tg == (0 : Int))) = some r))))))))) := by kernel_rfl

theorem en_rValid (m : Motor) (d : Drive) (r : AV) (h : bodyEv Γ Try.prog Try.f14 kp14 [m.av, d.av] r) : Den Try.prog 14 [m.av, d.av] r :=
  den_of_ev mixed Try.func14 (by kernel_rfl) (by kernel_rfl) (Nat.le_of_ble_eq_true (by kernel_rfl)) h

theorem vc_lvalid (m : Motor) (d : Drive) (r : AV) : (bodyEv Γ Try.prog Try.f15 kp15 [m.av, d.av] r) =
  (Den Try.prog 12 [AV.agg [I m.mx, I m.up, I m.dn, I m.st]] (Bo (right m)) ∧
  br (right m)
    (Den Try.prog 14 [AV.agg [I m.mx, I m.up, I m.dn, I m.st], AV.agg [I d.st, I d.sp, I d.tg, I d.mv]]
        (Bo (valid m d)) ∧
      some (Bo (valid m d)) = some r)
    (some (Bo false) = some r)) := by kernel_rfl

theorem en_lvalid (m : Motor) (d : Drive) (r : AV) (h : bodyEv Γ Try.prog Try.f15 kp15 [m.av, d.av] r) : Den Try.prog 15 [m.av, d.av] r :=
  den_of_ev mixed Try.func15 (by kernel_rfl) (by kernel_rfl) (Nat.le_of_ble_eq_true (by kernel_rfl)) h

theorem vc_dStart (m : Motor) (d : Drive) (t : Int) (r : AV) : (bodyEv Γ Try.prog Try.f16 kp16 [m.av, d.av, I t] r) =
  (br (d.st == (2 : Int))
  (some (AV.tup [AV.agg [I (0 : Int), I (0 : Int), I (0 : Int), I (0 : Int)], I (10 : Int)]) = some r)
  (br (d.st == (3 : Int))
    (some (AV.tup [AV.agg [I (0 : Int), I (0 : Int), I (0 : Int), I (0 : Int)], I (10 : Int)]) = some r)
    (Den Try.prog 30 [I t, I (1 : Int), I m.mx] (Bo (within t (1 : Int) m.mx)) ∧
      br (!within t (1 : Int) m.mx)
        (some (AV.tup [AV.agg [I (0 : Int), I (0 : Int), I (0 : Int), I (0 : Int)], I (2 : Int)]) = some r)
        (some (AV.tup [AV.agg [I (1 : Int), I d.sp, I t, I d.mv], I (0 : Int)]) = some r)))) := by kernel_rfl

theorem en_dStart (m : Motor) (d : Drive) (t : Int) (r : AV) (h : bodyEv Γ Try.prog Try.f16 kp16 [m.av, d.av, I t] r) : Den Try.prog 16 [m.av, d.av, I t] r :=
  den_of_ev mixed Try.func16 (by kernel_rfl) (by kernel_rfl) (Nat.le_of_ble_eq_true (by kernel_rfl)) h

theorem vc_rStart (m : Motor) (d : Drive) (t : Int) (r : AV) : (bodyEv Γ Try.prog Try.f17 kp17 [m.av, d.av, I t] r) =
  (br (d.st == (2 : Int))
  (some (AV.tup [AV.agg [I (0 : Int), I (0 : Int), I (0 : Int), I (0 : Int)], I (10 : Int)]) = some r)
  (br (d.st == (3 : Int))
    (some (AV.tup [AV.agg [I (0 : Int), I (0 : Int), I (0 : Int), I (0 : Int)], I (10 : Int)]) = some r)
    (br (decide (t < (1 : Int)))
      (some (AV.tup [AV.agg [I (0 : Int), I (0 : Int), I (0 : Int), I (0 : Int)], I (2 : Int)]) = some r)
      (br (decide (t > m.mx))
        (some (AV.tup [AV.agg [I (0 : Int), I (0 : Int), I (0 : Int), I (0 : Int)], I (2 : Int)]) = some r)
        (some (AV.tup [AV.agg [I (1 : Int), I d.sp, I t, I d.mv], I (0 : Int)]) = some r))))) := by kernel_rfl

theorem en_rStart (m : Motor) (d : Drive) (t : Int) (r : AV) (h : bodyEv Γ Try.prog Try.f17 kp17 [m.av, d.av, I t] r) : Den Try.prog 17 [m.av, d.av, I t] r :=
  den_of_ev mixed Try.func17 (by kernel_rfl) (by kernel_rfl) (Nat.le_of_ble_eq_true (by kernel_rfl)) h

theorem vc_dHalt (m : Motor) (d : Drive) (r : AV) : (bodyEv Γ Try.prog Try.f20 kp20 [m.av, d.av] r) =
  (br (d.st == (1 : Int)) (some (AV.agg [I (2 : Int), I d.sp, I (0 : Int), I d.mv]) = some r)
  (some (AV.agg [I d.st, I d.sp, I d.tg, I d.mv]) = some r)) := by kernel_rfl

theorem en_dHalt (m : Motor) (d : Drive) (r : AV) (h : bodyEv Γ Try.prog Try.f20 kp20 [m.av, d.av] r) : Den Try.prog 20 [m.av, d.av] r :=
  den_of_ev mixed Try.func20 (by kernel_rfl) (by kernel_rfl) (Nat.le_of_ble_eq_true (by kernel_rfl)) h

theorem vc_rHalt (m : Motor) (d : Drive) (r : AV) : (bodyEv Γ Try.prog Try.f21 kp21 [m.av, d.av] r) =
  (br (d.st == (1 : Int)) (some (AV.agg [I (2 : Int), I d.sp, I (0 : Int), I d.mv]) = some r)
  (some (AV.agg [I d.st, I d.sp, I d.tg, I d.mv]) = some r)) := by kernel_rfl

theorem en_rHalt (m : Motor) (d : Drive) (r : AV) (h : bodyEv Γ Try.prog Try.f21 kp21 [m.av, d.av] r) : Den Try.prog 21 [m.av, d.av] r :=
  den_of_ev mixed Try.func21 (by kernel_rfl) (by kernel_rfl) (Nat.le_of_ble_eq_true (by kernel_rfl)) h

theorem vc_dEmer (m : Motor) (d : Drive) (r : AV) : (bodyEv Γ Try.prog Try.f22 kp22 [m.av, d.av] r) =
  (some (AV.agg [I (3 : Int), I d.sp, I (0 : Int), I d.mv]) = some r) := by kernel_rfl

theorem en_dEmer (m : Motor) (d : Drive) (r : AV) (h : bodyEv Γ Try.prog Try.f22 kp22 [m.av, d.av] r) : Den Try.prog 22 [m.av, d.av] r :=
  den_of_ev mixed Try.func22 (by kernel_rfl) (by kernel_rfl) (Nat.le_of_ble_eq_true (by kernel_rfl)) h

theorem vc_rEmer (m : Motor) (d : Drive) (r : AV) : (bodyEv Γ Try.prog Try.f23 kp23 [m.av, d.av] r) =
  (some (AV.agg [I (3 : Int), I d.sp, I (0 : Int), I d.mv]) = some r) := by kernel_rfl

theorem en_rEmer (m : Motor) (d : Drive) (r : AV) (h : bodyEv Γ Try.prog Try.f23 kp23 [m.av, d.av] r) : Den Try.prog 23 [m.av, d.av] r :=
  den_of_ev mixed Try.func23 (by kernel_rfl) (by kernel_rfl) (Nat.le_of_ble_eq_true (by kernel_rfl)) h

theorem vc_dReset (m : Motor) (d : Drive) (r : AV) : (bodyEv Γ Try.prog Try.f18 kp18 [m.av, d.av] r) =
  (br (d.st != (3 : Int))
  (some (AV.tup [AV.agg [I (0 : Int), I (0 : Int), I (0 : Int), I (0 : Int)], I (10 : Int)]) = some r)
  (br (d.sp != (0 : Int))
    (some (AV.tup [AV.agg [I (0 : Int), I (0 : Int), I (0 : Int), I (0 : Int)], I (10 : Int)]) = some r)
    (some (AV.tup [AV.agg [I (0 : Int), I d.sp, I d.tg, I d.mv], I (0 : Int)]) = some r))) := by kernel_rfl

theorem en_dReset (m : Motor) (d : Drive) (r : AV) (h : bodyEv Γ Try.prog Try.f18 kp18 [m.av, d.av] r) : Den Try.prog 18 [m.av, d.av] r :=
  den_of_ev mixed Try.func18 (by kernel_rfl) (by kernel_rfl) (Nat.le_of_ble_eq_true (by kernel_rfl)) h

theorem vc_rReset (m : Motor) (d : Drive) (r : AV) : (bodyEv Γ Try.prog Try.f19 kp19 [m.av, d.av] r) =
  (br (d.st != (3 : Int))
  (some (AV.tup [AV.agg [I (0 : Int), I (0 : Int), I (0 : Int), I (0 : Int)], I (10 : Int)]) = some r)
  (br (d.sp != (0 : Int))
    (some (AV.tup [AV.agg [I (0 : Int), I (0 : Int), I (0 : Int), I (0 : Int)], I (10 : Int)]) = some r)
    (some (AV.tup [AV.agg [I (0 : Int), I d.sp, I d.tg, I d.mv], I (0 : Int)]) = some r))) := by kernel_rfl

theorem en_rReset (m : Motor) (d : Drive) (r : AV) (h : bodyEv Γ Try.prog Try.f19 kp19 [m.av, d.av] r) : Den Try.prog 19 [m.av, d.av] r :=
  den_of_ev mixed Try.func19 (by kernel_rfl) (by kernel_rfl) (Nat.le_of_ble_eq_true (by kernel_rfl)) h

theorem vc_dStep (m : Motor) (d : Drive) (n : Int) (r : AV) : (bodyEv Γ Try.prog Try.f24 kp24 [m.av, d.av, I n] r) =
  (LoopS Γ Try.prog Try.f24.ntmps kp24 [] (PostA Try.prog Try.f24.results.toList r)
  (codeOf Try.f24 [1, 0, 1, 0, 0])
  [It.blk 0, It.code (codeOf Try.f24 [1, 1])]
  (St.mk
    [(3, AV.ptr 0 0), (4, AV.ptr 1 0),
      (6, AV.ptr 2 0), (9, I (min (max n (0 : Int)) (3600 : Int))),
      (10, I (0 : Int))]
    [Box.var 23 [I m.mx, I m.up, I m.dn, I m.st], Box.var 25 [I d.st, I d.sp, I d.tg, I d.mv],
      Box.var 25 [I (0 : Int), I (0 : Int), I (0 : Int), I (0 : Int)]])) := by kernel_rfl

theorem en_dStep (m : Motor) (d : Drive) (n : Int) (r : AV) (h : bodyEv Γ Try.prog Try.f24 kp24 [m.av, d.av, I n] r) : Den Try.prog 24 [m.av, d.av, I n] r :=
  den_of_ev mixed Try.func24 (by kernel_rfl) (by kernel_rfl) (Nat.le_of_ble_eq_true (by kernel_rfl)) h

theorem vc_rStep (m : Motor) (d : Drive) (n : Int) (r : AV) : (bodyEv Γ Try.prog Try.f25 kp25 [m.av, d.av, I n] r) =
  (LoopS Γ Try.prog Try.f25.ntmps kp25 [] (PostA Try.prog Try.f25.results.toList r)
  (codeOf Try.f25 [1, 0, 1, 0, 0])
  [It.blk 0, It.code (codeOf Try.f25 [1, 1])]
  (St.mk
    [(2, I n), (3, AV.ptr 0 0), (4, AV.ptr 1 0),
      (6, AV.ptr 2 0), (7, I (0 : Int))]
    [Box.var 23 [I m.mx, I m.up, I m.dn, I m.st], Box.var 25 [I d.st, I d.sp, I d.tg, I d.mv],
      Box.var 25 [I (0 : Int), I (0 : Int), I (0 : Int), I (0 : Int)]])) := by kernel_rfl

theorem en_rStep (m : Motor) (d : Drive) (n : Int) (r : AV) (h : bodyEv Γ Try.prog Try.f25 kp25 [m.av, d.av, I n] r) : Den Try.prog 25 [m.av, d.av, I n] r :=
  den_of_ev mixed Try.func25 (by kernel_rfl) (by kernel_rfl) (Nat.le_of_ble_eq_true (by kernel_rfl)) h

theorem vc_dDist (m : Motor) (d : Drive) (r : AV) : (bodyEv Γ Try.prog Try.f26 kp26 [m.av, d.av] r) =
  (Den Try.prog 22 [AV.agg [I m.mx, I m.up, I m.dn, I m.st], AV.agg [I d.st, I d.sp, I d.tg, I d.mv]]
    (AV.agg [I (emer d).st, I (emer d).sp, I (emer d).tg, I (emer d).mv]) ∧
  LoopS Γ Try.prog Try.f26.ntmps kp26 [] (PostA Try.prog Try.f26.results.toList r)
    (codeOf Try.f26 [1, 1, 0, 1, 0, 0])
    [It.blk 0, It.code (codeOf Try.f26 [1, 1, 1])]
    (St.mk [(2, AV.ptr 0 0), (3, AV.ptr 1 0), (5, I (0 : Int))]
      [Box.var 23 [I m.mx, I m.up, I m.dn, I m.st],
        Box.var 25 [I (emer d).st, I (emer d).sp, I (emer d).tg, I (emer d).mv]])) := by kernel_rfl

theorem en_dDist (m : Motor) (d : Drive) (r : AV) (h : bodyEv Γ Try.prog Try.f26 kp26 [m.av, d.av] r) : Den Try.prog 26 [m.av, d.av] r :=
  den_of_ev mixed Try.func26 (by kernel_rfl) (by kernel_rfl) (Nat.le_of_ble_eq_true (by kernel_rfl)) h

theorem vc_rDist (m : Motor) (d : Drive) (r : AV) : (bodyEv Γ Try.prog Try.f27 kp27 [m.av, d.av] r) =
  (LoopS Γ Try.prog Try.f27.ntmps kp27 [] (PostA Try.prog Try.f27.results.toList r)
  (codeOf Try.f27 [1, 1, 0, 1, 0, 0])
  [It.blk 0, It.code (codeOf Try.f27 [1, 1, 1])]
  (St.mk
    [(2, AV.ptr 0 0), (5, I (0 : Int)),
      (6, I (IntKind.wrap IntKind.i64 (d.sp - m.st)))]
    [Box.var 23 [I m.mx, I m.up, I m.dn, I m.st]])) := by kernel_rfl

theorem en_rDist (m : Motor) (d : Drive) (r : AV) (h : bodyEv Γ Try.prog Try.f27 kp27 [m.av, d.av] r) : Den Try.prog 27 [m.av, d.av] r :=
  den_of_ev mixed Try.func27 (by kernel_rfl) (by kernel_rfl) (Nat.le_of_ble_eq_true (by kernel_rfl)) h

theorem vc_lfar (a b : Drive) (r : AV) : (bodyEv Γ Try.prog Try.f28 kp28 [a.av, b.av] r) =
  (br (decide (IntKind.wrap IntKind.i64 (b.mv - a.mv) < (0 : Int)))
  (some
      (I
        (IntKind.wrap IntKind.i64
          (IntKind.wrap IntKind.i64 (IntKind.wrap IntKind.i64 (b.mv - a.mv) + (1125899906842624 : Int)) + (1 : Int)))) =
    some r)
  (some (I (IntKind.wrap IntKind.i64 (b.mv - a.mv))) = some r)) := by kernel_rfl

theorem en_lfar (a b : Drive) (r : AV) (h : bodyEv Γ Try.prog Try.f28 kp28 [a.av, b.av] r) : Den Try.prog 28 [a.av, b.av] r :=
  den_of_ev mixed Try.func28 (by kernel_rfl) (by kernel_rfl) (Nat.le_of_ble_eq_true (by kernel_rfl)) h

theorem vc_motor  (r : AV) : (bodyEv Γ Try.prog Try.f29 kp29 [] r) =
  (some (AV.agg [I (5000 : Int), I (400 : Int), I (500 : Int), I (1500 : Int)]) = some r) := by kernel_rfl

theorem en_motor  (r : AV) (h : bodyEv Γ Try.prog Try.f29 kp29 [] r) : Den Try.prog 29 [] r :=
  den_of_ev mixed Try.func29 (by kernel_rfl) (by kernel_rfl) (Nat.le_of_ble_eq_true (by kernel_rfl)) h

theorem vc_alive  (r : AV) : (bodyEv Γ Try.prog Try.f10 kp10 [] r) =
  (Den Try.prog 29 [] (AV.agg [I (5000 : Int), I (400 : Int), I (500 : Int), I (1500 : Int)]) ∧
  Den Try.prog 16
      [AV.agg [I (5000 : Int), I (400 : Int), I (500 : Int), I (1500 : Int)],
        AV.agg [I (0 : Int), I (0 : Int), I (0 : Int), I (0 : Int)], I (1000 : Int)]
      (AV.tup [AV.agg [I (1 : Int), I (0 : Int), I (1000 : Int), I (0 : Int)], I (0 : Int)]) ∧
    Den Try.prog 24
        [AV.agg [I (5000 : Int), I (400 : Int), I (500 : Int), I (1500 : Int)],
          AV.agg [I (1 : Int), I (0 : Int), I (1000 : Int), I (0 : Int)], I (3 : Int)]
        (AV.agg [I (1 : Int), I (1000 : Int), I (1000 : Int), I (2200 : Int)]) ∧
      Den Try.prog 20
          [AV.agg [I (5000 : Int), I (400 : Int), I (500 : Int), I (1500 : Int)],
            AV.agg [I (1 : Int), I (1000 : Int), I (1000 : Int), I (2200 : Int)]]
          (AV.agg [I (2 : Int), I (1000 : Int), I (0 : Int), I (2200 : Int)]) ∧
        Den Try.prog 24
            [AV.agg [I (5000 : Int), I (400 : Int), I (500 : Int), I (1500 : Int)],
              AV.agg [I (2 : Int), I (1000 : Int), I (0 : Int), I (2200 : Int)], I (2 : Int)]
            (AV.agg [I (0 : Int), I (0 : Int), I (0 : Int), I (2700 : Int)]) ∧
          Den Try.prog 22
              [AV.agg [I (5000 : Int), I (400 : Int), I (500 : Int), I (1500 : Int)],
                AV.agg [I (1 : Int), I (5000 : Int), I (5000 : Int), I (0 : Int)]]
              (AV.agg [I (3 : Int), I (5000 : Int), I (0 : Int), I (0 : Int)]) ∧
            Den Try.prog 24
                [AV.agg [I (5000 : Int), I (400 : Int), I (500 : Int), I (1500 : Int)],
                  AV.agg [I (3 : Int), I (5000 : Int), I (0 : Int), I (0 : Int)], I (4 : Int)]
                (AV.agg [I (3 : Int), I (0 : Int), I (0 : Int), I (6000 : Int)]) ∧
              Den Try.prog 18
                  [AV.agg [I (5000 : Int), I (400 : Int), I (500 : Int), I (1500 : Int)],
                    AV.agg [I (3 : Int), I (0 : Int), I (0 : Int), I (6000 : Int)]]
                  (AV.tup [AV.agg [I (0 : Int), I (0 : Int), I (0 : Int), I (6000 : Int)], I (0 : Int)]) ∧
                Den Try.prog 22
                    [AV.agg [I (5000 : Int), I (400 : Int), I (500 : Int), I (1500 : Int)],
                      AV.agg [I (1 : Int), I (5000 : Int), I (5000 : Int), I (0 : Int)]]
                    (AV.agg [I (3 : Int), I (5000 : Int), I (0 : Int), I (0 : Int)]) ∧
                  Den Try.prog 24
                      [AV.agg [I (5000 : Int), I (400 : Int), I (500 : Int), I (1500 : Int)],
                        AV.agg [I (3 : Int), I (5000 : Int), I (0 : Int), I (0 : Int)], I (3 : Int)]
                      (AV.agg [I (3 : Int), I (500 : Int), I (0 : Int), I (6000 : Int)]) ∧
                    Den Try.prog 18
                        [AV.agg [I (5000 : Int), I (400 : Int), I (500 : Int), I (1500 : Int)],
                          AV.agg [I (3 : Int), I (500 : Int), I (0 : Int), I (6000 : Int)]]
                        (AV.tup [AV.agg [I (0 : Int), I (0 : Int), I (0 : Int), I (0 : Int)], I (10 : Int)]) ∧
                      Den Try.prog 11 [AV.agg [I (5000 : Int), I (400 : Int), I (500 : Int), I (1500 : Int)]]
                          (Bo true) ∧
                        Den Try.prog 13
                            [AV.agg [I (5000 : Int), I (400 : Int), I (500 : Int), I (1500 : Int)],
                              AV.agg [I (1 : Int), I (5000 : Int), I (5000 : Int), I (0 : Int)]]
                            (Bo true) ∧
                          Den Try.prog 13
                              [AV.agg [I (5000 : Int), I (400 : Int), I (500 : Int), I (1500 : Int)],
                                AV.agg [I (0 : Int), I (1 : Int), I (0 : Int), I (0 : Int)]]
                              (Bo false) ∧
                            Den Try.prog 26
                                [AV.agg [I (5000 : Int), I (400 : Int), I (500 : Int), I (1500 : Int)],
                                  AV.agg [I (1 : Int), I (5000 : Int), I (5000 : Int), I (0 : Int)]]
                                (I (6000 : Int)) ∧
                              some (Bo true) = some r) := by kernel_rfl

theorem en_alive  (r : AV) (h : bodyEv Γ Try.prog Try.f10 kp10 [] r) : Den Try.prog 10 [] r :=
  den_of_ev mixed Try.func10 (by kernel_rfl) (by kernel_rfl) (Nat.le_of_ble_eq_true (by kernel_rfl)) h

theorem vc_rights (m : Motor) (d : Drive) (r : AV) : (bodyEv Γ Try.prog Try.f3 kp3 [m.av, d.av] r) =
  (Den Try.prog 10 [] (Bo true) ∧
  Den Try.prog 11 [AV.agg [I m.mx, I m.up, I m.dn, I m.st]] (Bo (right m)) ∧
    Den Try.prog 12 [AV.agg [I m.mx, I m.up, I m.dn, I m.st]] (Bo (right m)) ∧
      br (right m == right m)
        (Den Try.prog 13 [AV.agg [I m.mx, I m.up, I m.dn, I m.st], AV.agg [I d.st, I d.sp, I d.tg, I d.mv]]
            (Bo (valid m d)) ∧
          Den Try.prog 14 [AV.agg [I m.mx, I m.up, I m.dn, I m.st], AV.agg [I d.st, I d.sp, I d.tg, I d.mv]]
              (Bo (valid m d)) ∧
            some (Bo (valid m d == valid m d)) = some r)
        (some (Bo false) = some r)) := by kernel_rfl

theorem en_rights (m : Motor) (d : Drive) (r : AV) (h : bodyEv Γ Try.prog Try.f3 kp3 [m.av, d.av] r) : Den Try.prog 3 [m.av, d.av] r :=
  den_of_ev mixed Try.func3 (by kernel_rfl) (by kernel_rfl) (Nat.le_of_ble_eq_true (by kernel_rfl)) h

theorem vc_starts (m : Motor) (d : Drive) (t : Int) (r : AV) : (bodyEv Γ Try.prog Try.f4 kp4 [m.av, d.av, I t] r) =
  (Den Try.prog 10 [] (Bo true) ∧
  Den Try.prog 15 [AV.agg [I m.mx, I m.up, I m.dn, I m.st], AV.agg [I d.st, I d.sp, I d.tg, I d.mv]]
      (Bo (right m && valid m d)) ∧
    br (!(right m && valid m d)) (some (Bo true) = some r)
      (Den Try.prog 16 [AV.agg [I m.mx, I m.up, I m.dn, I m.st], AV.agg [I d.st, I d.sp, I d.tg, I d.mv], I t]
          (AV.tup
            [AV.agg [I (start m d t).fst.st, I (start m d t).fst.sp, I (start m d t).fst.tg, I (start m d t).fst.mv],
              I (start m d t).snd]) ∧
        Den Try.prog 17 [AV.agg [I m.mx, I m.up, I m.dn, I m.st], AV.agg [I d.st, I d.sp, I d.tg, I d.mv], I t]
            (AV.tup
              [AV.agg [I (start m d t).fst.st, I (start m d t).fst.sp, I (start m d t).fst.tg, I (start m d t).fst.mv],
                I (start m d t).snd]) ∧
          Den Try.prog 18 [AV.agg [I m.mx, I m.up, I m.dn, I m.st], AV.agg [I d.st, I d.sp, I d.tg, I d.mv]]
              (AV.tup
                [AV.agg [I (rst d).fst.st, I (rst d).fst.sp, I (rst d).fst.tg, I (rst d).fst.mv], I (rst d).snd]) ∧
            Den Try.prog 19 [AV.agg [I m.mx, I m.up, I m.dn, I m.st], AV.agg [I d.st, I d.sp, I d.tg, I d.mv]]
                (AV.tup
                  [AV.agg [I (rst d).fst.st, I (rst d).fst.sp, I (rst d).fst.tg, I (rst d).fst.mv], I (rst d).snd]) ∧
              br
                ((start m d t).fst.st == (start m d t).fst.st &&
                  ((start m d t).fst.sp == (start m d t).fst.sp &&
                    ((start m d t).fst.tg == (start m d t).fst.tg &&
                      ((start m d t).fst.mv == (start m d t).fst.mv && true))))
                (br ((start m d t).snd == (start m d t).snd)
                  (br
                    ((rst d).fst.st == (rst d).fst.st &&
                      ((rst d).fst.sp == (rst d).fst.sp &&
                        ((rst d).fst.tg == (rst d).fst.tg && ((rst d).fst.mv == (rst d).fst.mv && true))))
                    (br ((rst d).snd == (rst d).snd)
                      (Den Try.prog 20
                          [AV.agg [I m.mx, I m.up, I m.dn, I m.st], AV.agg [I d.st, I d.sp, I d.tg, I d.mv]]
                          (AV.agg [I (halt d).st, I (halt d).sp, I (halt d).tg, I (halt d).mv]) ∧
                        Den Try.prog 21
                            [AV.agg [I m.mx, I m.up, I m.dn, I m.st], AV.agg [I d.st, I d.sp, I d.tg, I d.mv]]
                            (AV.agg [I (halt d).st, I (halt d).sp, I (halt d).tg, I (halt d).mv]) ∧
                          br
                            ((halt d).st == (halt d).st &&
                              ((halt d).sp == (halt d).sp &&
                                ((halt d).tg == (halt d).tg && ((halt d).mv == (halt d).mv && true))))
                            (Den Try.prog 22
                                [AV.agg [I m.mx, I m.up, I m.dn, I m.st], AV.agg [I d.st, I d.sp, I d.tg, I d.mv]]
                                (AV.agg [I (emer d).st, I (emer d).sp, I (emer d).tg, I (emer d).mv]) ∧
                              Den Try.prog 23
                                  [AV.agg [I m.mx, I m.up, I m.dn, I m.st], AV.agg [I d.st, I d.sp, I d.tg, I d.mv]]
                                  (AV.agg [I (emer d).st, I (emer d).sp, I (emer d).tg, I (emer d).mv]) ∧
                                some
                                    (Bo
                                      ((emer d).st == (emer d).st &&
                                        ((emer d).sp == (emer d).sp &&
                                          ((emer d).tg == (emer d).tg && ((emer d).mv == (emer d).mv && true))))) =
                                  some r)
                            (some (Bo false) = some r))
                      (some (Bo false) = some r))
                    (some (Bo false) = some r))
                  (some (Bo false) = some r))
                (some (Bo false) = some r))) := by kernel_rfl

theorem en_starts (m : Motor) (d : Drive) (t : Int) (r : AV) (h : bodyEv Γ Try.prog Try.f4 kp4 [m.av, d.av, I t] r) : Den Try.prog 4 [m.av, d.av, I t] r :=
  den_of_ev mixed Try.func4 (by kernel_rfl) (by kernel_rfl) (Nat.le_of_ble_eq_true (by kernel_rfl)) h

theorem vc_steps (m : Motor) (d : Drive) (n : Int) (r : AV) : (bodyEv Γ Try.prog Try.f5 kp5 [m.av, d.av, I n] r) =
  (Den Try.prog 10 [] (Bo true) ∧
  Den Try.prog 15 [AV.agg [I m.mx, I m.up, I m.dn, I m.st], AV.agg [I d.st, I d.sp, I d.tg, I d.mv]]
      (Bo (right m && valid m d)) ∧
    br (!(right m && valid m d)) (some (Bo true) = some r)
      (Den Try.prog 24 [AV.agg [I m.mx, I m.up, I m.dn, I m.st], AV.agg [I d.st, I d.sp, I d.tg, I d.mv], I n]
          (AV.agg [I (step m d n).st, I (step m d n).sp, I (step m d n).tg, I (step m d n).mv]) ∧
        Den Try.prog 25 [AV.agg [I m.mx, I m.up, I m.dn, I m.st], AV.agg [I d.st, I d.sp, I d.tg, I d.mv], I n]
            (AV.agg [I (step m d n).st, I (step m d n).sp, I (step m d n).tg, I (step m d n).mv]) ∧
          br
            ((step m d n).st == (step m d n).st &&
              ((step m d n).sp == (step m d n).sp &&
                ((step m d n).tg == (step m d n).tg && ((step m d n).mv == (step m d n).mv && true))))
            (Den Try.prog 26 [AV.agg [I m.mx, I m.up, I m.dn, I m.st], AV.agg [I d.st, I d.sp, I d.tg, I d.mv]]
                (I (distance m d)) ∧
              Den Try.prog 27 [AV.agg [I m.mx, I m.up, I m.dn, I m.st], AV.agg [I d.st, I d.sp, I d.tg, I d.mv]]
                  (I (distance m d)) ∧
                some (Bo (distance m d == distance m d)) = some r)
            (some (Bo false) = some r))) := by kernel_rfl

theorem en_steps (m : Motor) (d : Drive) (n : Int) (r : AV) (h : bodyEv Γ Try.prog Try.f5 kp5 [m.av, d.av, I n] r) : Den Try.prog 5 [m.av, d.av, I n] r :=
  den_of_ev mixed Try.func5 (by kernel_rfl) (by kernel_rfl) (Nat.le_of_ble_eq_true (by kernel_rfl)) h

theorem vc_stops (m : Motor) (d : Drive) (n : Int) (r : AV) : (bodyEv Γ Try.prog Try.f6 kp6 [m.av, d.av, I n] r) =
  (Den Try.prog 10 [] (Bo true) ∧
  Den Try.prog 15 [AV.agg [I m.mx, I m.up, I m.dn, I m.st], AV.agg [I d.st, I d.sp, I d.tg, I d.mv]]
      (Bo (right m && valid m d)) ∧
    br (!(right m && valid m d)) (some (Bo true) = some r)
      (br (decide (n < (0 : Int))) (some (Bo true) = some r)
        (Den Try.prog 22 [AV.agg [I m.mx, I m.up, I m.dn, I m.st], AV.agg [I d.st, I d.sp, I d.tg, I d.mv]]
            (AV.agg [I (emer d).st, I (emer d).sp, I (emer d).tg, I (emer d).mv]) ∧
          Den Try.prog 26 [AV.agg [I m.mx, I m.up, I m.dn, I m.st], AV.agg [I d.st, I d.sp, I d.tg, I d.mv]]
              (I (distance m d)) ∧
            LoopS Γ Try.prog Try.f6.ntmps kp6 [] (PostA Try.prog Try.f6.results.toList r)
              (codeOf Try.f6
                [1, 1, 1, 1, 1, 1, 0, 1, 0,
                  0])
              [It.blk 0,
                It.code (codeOf Try.f6 [1, 1, 1, 1, 1, 1, 1])]
              (St.mk
                [(2, I n), (3, AV.ptr 0 0), (4, AV.ptr 1 0),
                  (7, AV.ptr 2 0), (8, I (distance m d)),
                  (9, AV.ptr 3 0), (10, I (0 : Int))]
                [Box.var 23 [I m.mx, I m.up, I m.dn, I m.st],
                  Box.var 25 [I d.st, I d.sp, I d.tg, I d.mv],
                  Box.var 25 [I (emer d).st, I (emer d).sp, I (emer d).tg, I (emer d).mv],
                  Box.var 25 [I (emer d).st, I (emer d).sp, I (emer d).tg, I (emer d).mv]])))) := by kernel_rfl

theorem en_stops (m : Motor) (d : Drive) (n : Int) (r : AV) (h : bodyEv Γ Try.prog Try.f6 kp6 [m.av, d.av, I n] r) : Den Try.prog 6 [m.av, d.av, I n] r :=
  den_of_ev mixed Try.func6 (by kernel_rfl) (by kernel_rfl) (Nat.le_of_ble_eq_true (by kernel_rfl)) h

theorem vc_targets (m : Motor) (d : Drive) (r : AV) : (bodyEv Γ Try.prog Try.f7 kp7 [m.av, d.av] r) =
  (Den Try.prog 10 [] (Bo true) ∧
  Den Try.prog 15 [AV.agg [I m.mx, I m.up, I m.dn, I m.st], AV.agg [I d.st, I d.sp, I d.tg, I d.mv]]
      (Bo (right m && valid m d)) ∧
    br (!(right m && valid m d)) (some (Bo true) = some r)
      (Den Try.prog 24
          [AV.agg [I m.mx, I m.up, I m.dn, I m.st], AV.agg [I d.st, I d.sp, I d.tg, I d.mv], I (1 : Int)]
          (AV.agg
            [I (step m d (1 : Int)).st, I (step m d (1 : Int)).sp, I (step m d (1 : Int)).tg,
              I (step m d (1 : Int)).mv]) ∧
        br (d.st == (1 : Int))
          (br ((step m d (1 : Int)).st != (1 : Int)) (some (Bo false) = some r)
            (br ((step m d (1 : Int)).tg != d.tg) (some (Bo false) = some r)
              (br
                (decide
                  (max (IntKind.wrap IntKind.i64 ((step m d (1 : Int)).sp - (step m d (1 : Int)).tg))
                      (IntKind.wrap IntKind.i64 ((step m d (1 : Int)).tg - (step m d (1 : Int)).sp)) >
                    max (IntKind.wrap IntKind.i64 (d.sp - d.tg)) (IntKind.wrap IntKind.i64 (d.tg - d.sp))))
                (some (Bo false) = some r)
                (br
                  (max (IntKind.wrap IntKind.i64 ((step m d (1 : Int)).sp - (step m d (1 : Int)).tg))
                      (IntKind.wrap IntKind.i64 ((step m d (1 : Int)).tg - (step m d (1 : Int)).sp)) ==
                    max (IntKind.wrap IntKind.i64 (d.sp - d.tg)) (IntKind.wrap IntKind.i64 (d.tg - d.sp)))
                  (br
                    (max (IntKind.wrap IntKind.i64 (d.sp - d.tg)) (IntKind.wrap IntKind.i64 (d.tg - d.sp)) != (0 : Int))
                    (some (Bo false) = some r)
                    (br (!decide ((step m d (1 : Int)).sp < (step m d (1 : Int)).tg) == decide (d.sp < d.tg))
                      (br
                        (max (IntKind.wrap IntKind.i64 ((step m d (1 : Int)).sp - (step m d (1 : Int)).tg))
                            (IntKind.wrap IntKind.i64 ((step m d (1 : Int)).tg - (step m d (1 : Int)).sp)) !=
                          (0 : Int))
                        (some (Bo false) = some r)
                        (br (d.st == (0 : Int))
                          (some
                              (Bo
                                ((step m d (1 : Int)).st == d.st &&
                                  ((step m d (1 : Int)).sp == d.sp &&
                                    ((step m d (1 : Int)).tg == d.tg && ((step m d (1 : Int)).mv == d.mv && true))))) =
                            some r)
                          (Den Try.prog 20
                              [AV.agg [I m.mx, I m.up, I m.dn, I m.st], AV.agg [I d.st, I d.sp, I d.tg, I d.mv]]
                              (AV.agg [I (halt d).st, I (halt d).sp, I (halt d).tg, I (halt d).mv]) ∧
                            Den Try.prog 24
                                [AV.agg [I m.mx, I m.up, I m.dn, I m.st],
                                  AV.agg [I (halt d).st, I (halt d).sp, I (halt d).tg, I (halt d).mv], I (240 : Int)]
                                (AV.agg
                                  [I (step m (halt d) (240 : Int)).st, I (step m (halt d) (240 : Int)).sp,
                                    I (step m (halt d) (240 : Int)).tg, I (step m (halt d) (240 : Int)).mv]) ∧
                              br (d.st == (3 : Int))
                                (br ((step m (halt d) (240 : Int)).sp == (0 : Int))
                                  (Den Try.prog 28
                                      [AV.agg [I d.st, I d.sp, I d.tg, I d.mv],
                                        AV.agg
                                          [I (step m d (1 : Int)).st, I (step m d (1 : Int)).sp,
                                            I (step m d (1 : Int)).tg, I (step m d (1 : Int)).mv]]
                                      (I (far d (step m d (1 : Int)))) ∧
                                    some (Bo (far d (step m d (1 : Int)) == (step m d (1 : Int)).sp)) = some r)
                                  (some (Bo false) = some r))
                                (br ((step m (halt d) (240 : Int)).st == (0 : Int))
                                  (br ((step m (halt d) (240 : Int)).sp == (0 : Int))
                                    (Den Try.prog 28
                                        [AV.agg [I d.st, I d.sp, I d.tg, I d.mv],
                                          AV.agg
                                            [I (step m d (1 : Int)).st, I (step m d (1 : Int)).sp,
                                              I (step m d (1 : Int)).tg, I (step m d (1 : Int)).mv]]
                                        (I (far d (step m d (1 : Int)))) ∧
                                      some (Bo (far d (step m d (1 : Int)) == (step m d (1 : Int)).sp)) = some r)
                                    (some (Bo false) = some r))
                                  (some (Bo false) = some r)))))
                      (br (d.st == (0 : Int))
                        (some
                            (Bo
                              ((step m d (1 : Int)).st == d.st &&
                                ((step m d (1 : Int)).sp == d.sp &&
                                  ((step m d (1 : Int)).tg == d.tg && ((step m d (1 : Int)).mv == d.mv && true))))) =
                          some r)
                        (Den Try.prog 20
                            [AV.agg [I m.mx, I m.up, I m.dn, I m.st], AV.agg [I d.st, I d.sp, I d.tg, I d.mv]]
                            (AV.agg [I (halt d).st, I (halt d).sp, I (halt d).tg, I (halt d).mv]) ∧
                          Den Try.prog 24
                              [AV.agg [I m.mx, I m.up, I m.dn, I m.st],
                                AV.agg [I (halt d).st, I (halt d).sp, I (halt d).tg, I (halt d).mv], I (240 : Int)]
                              (AV.agg
                                [I (step m (halt d) (240 : Int)).st, I (step m (halt d) (240 : Int)).sp,
                                  I (step m (halt d) (240 : Int)).tg, I (step m (halt d) (240 : Int)).mv]) ∧
                            br (d.st == (3 : Int))
                              (br ((step m (halt d) (240 : Int)).sp == (0 : Int))
                                (Den Try.prog 28
                                    [AV.agg [I d.st, I d.sp, I d.tg, I d.mv],
                                      AV.agg
                                        [I (step m d (1 : Int)).st, I (step m d (1 : Int)).sp,
                                          I (step m d (1 : Int)).tg, I (step m d (1 : Int)).mv]]
                                    (I (far d (step m d (1 : Int)))) ∧
                                  some (Bo (far d (step m d (1 : Int)) == (step m d (1 : Int)).sp)) = some r)
                                (some (Bo false) = some r))
                              (br ((step m (halt d) (240 : Int)).st == (0 : Int))
                                (br ((step m (halt d) (240 : Int)).sp == (0 : Int))
                                  (Den Try.prog 28
                                      [AV.agg [I d.st, I d.sp, I d.tg, I d.mv],
                                        AV.agg
                                          [I (step m d (1 : Int)).st, I (step m d (1 : Int)).sp,
                                            I (step m d (1 : Int)).tg, I (step m d (1 : Int)).mv]]
                                      (I (far d (step m d (1 : Int)))) ∧
                                    some (Bo (far d (step m d (1 : Int)) == (step m d (1 : Int)).sp)) = some r)
                                  (some (Bo false) = some r))
                                (some (Bo false) = some r))))))
                  (br (!decide ((step m d (1 : Int)).sp < (step m d (1 : Int)).tg) == decide (d.sp < d.tg))
                    (br
                      (max (IntKind.wrap IntKind.i64 ((step m d (1 : Int)).sp - (step m d (1 : Int)).tg))
                          (IntKind.wrap IntKind.i64 ((step m d (1 : Int)).tg - (step m d (1 : Int)).sp)) !=
                        (0 : Int))
                      (some (Bo false) = some r)
                      (br (d.st == (0 : Int))
                        (some
                            (Bo
                              ((step m d (1 : Int)).st == d.st &&
                                ((step m d (1 : Int)).sp == d.sp &&
                                  ((step m d (1 : Int)).tg == d.tg && ((step m d (1 : Int)).mv == d.mv && true))))) =
                          some r)
                        (Den Try.prog 20
                            [AV.agg [I m.mx, I m.up, I m.dn, I m.st], AV.agg [I d.st, I d.sp, I d.tg, I d.mv]]
                            (AV.agg [I (halt d).st, I (halt d).sp, I (halt d).tg, I (halt d).mv]) ∧
                          Den Try.prog 24
                              [AV.agg [I m.mx, I m.up, I m.dn, I m.st],
                                AV.agg [I (halt d).st, I (halt d).sp, I (halt d).tg, I (halt d).mv], I (240 : Int)]
                              (AV.agg
                                [I (step m (halt d) (240 : Int)).st, I (step m (halt d) (240 : Int)).sp,
                                  I (step m (halt d) (240 : Int)).tg, I (step m (halt d) (240 : Int)).mv]) ∧
                            br (d.st == (3 : Int))
                              (br ((step m (halt d) (240 : Int)).sp == (0 : Int))
                                (Den Try.prog 28
                                    [AV.agg [I d.st, I d.sp, I d.tg, I d.mv],
                                      AV.agg
                                        [I (step m d (1 : Int)).st, I (step m d (1 : Int)).sp,
                                          I (step m d (1 : Int)).tg, I (step m d (1 : Int)).mv]]
                                    (I (far d (step m d (1 : Int)))) ∧
                                  some (Bo (far d (step m d (1 : Int)) == (step m d (1 : Int)).sp)) = some r)
                                (some (Bo false) = some r))
                              (br ((step m (halt d) (240 : Int)).st == (0 : Int))
                                (br ((step m (halt d) (240 : Int)).sp == (0 : Int))
                                  (Den Try.prog 28
                                      [AV.agg [I d.st, I d.sp, I d.tg, I d.mv],
                                        AV.agg
                                          [I (step m d (1 : Int)).st, I (step m d (1 : Int)).sp,
                                            I (step m d (1 : Int)).tg, I (step m d (1 : Int)).mv]]
                                      (I (far d (step m d (1 : Int)))) ∧
                                    some (Bo (far d (step m d (1 : Int)) == (step m d (1 : Int)).sp)) = some r)
                                  (some (Bo false) = some r))
                                (some (Bo false) = some r)))))
                    (br (d.st == (0 : Int))
                      (some
                          (Bo
                            ((step m d (1 : Int)).st == d.st &&
                              ((step m d (1 : Int)).sp == d.sp &&
                                ((step m d (1 : Int)).tg == d.tg && ((step m d (1 : Int)).mv == d.mv && true))))) =
                        some r)
                      (Den Try.prog 20
                          [AV.agg [I m.mx, I m.up, I m.dn, I m.st], AV.agg [I d.st, I d.sp, I d.tg, I d.mv]]
                          (AV.agg [I (halt d).st, I (halt d).sp, I (halt d).tg, I (halt d).mv]) ∧
                        Den Try.prog 24
                            [AV.agg [I m.mx, I m.up, I m.dn, I m.st],
                              AV.agg [I (halt d).st, I (halt d).sp, I (halt d).tg, I (halt d).mv], I (240 : Int)]
                            (AV.agg
                              [I (step m (halt d) (240 : Int)).st, I (step m (halt d) (240 : Int)).sp,
                                I (step m (halt d) (240 : Int)).tg, I (step m (halt d) (240 : Int)).mv]) ∧
                          br (d.st == (3 : Int))
                            (br ((step m (halt d) (240 : Int)).sp == (0 : Int))
                              (Den Try.prog 28
                                  [AV.agg [I d.st, I d.sp, I d.tg, I d.mv],
                                    AV.agg
                                      [I (step m d (1 : Int)).st, I (step m d (1 : Int)).sp, I (step m d (1 : Int)).tg,
                                        I (step m d (1 : Int)).mv]]
                                  (I (far d (step m d (1 : Int)))) ∧
                                some (Bo (far d (step m d (1 : Int)) == (step m d (1 : Int)).sp)) = some r)
                              (some (Bo false) = some r))
                            (br ((step m (halt d) (240 : Int)).st == (0 : Int))
                              (br ((step m (halt d) (240 : Int)).sp == (0 : Int))
                                (Den Try.prog 28
                                    [AV.agg [I d.st, I d.sp, I d.tg, I d.mv],
                                      AV.agg
                                        [I (step m d (1 : Int)).st, I (step m d (1 : Int)).sp,
                                          I (step m d (1 : Int)).tg, I (step m d (1 : Int)).mv]]
                                    (I (far d (step m d (1 : Int)))) ∧
                                  some (Bo (far d (step m d (1 : Int)) == (step m d (1 : Int)).sp)) = some r)
                                (some (Bo false) = some r))
                              (some (Bo false) = some r)))))))))
          (br (d.st == (0 : Int))
            (some
                (Bo
                  ((step m d (1 : Int)).st == d.st &&
                    ((step m d (1 : Int)).sp == d.sp &&
                      ((step m d (1 : Int)).tg == d.tg && ((step m d (1 : Int)).mv == d.mv && true))))) =
              some r)
            (Den Try.prog 20 [AV.agg [I m.mx, I m.up, I m.dn, I m.st], AV.agg [I d.st, I d.sp, I d.tg, I d.mv]]
                (AV.agg [I (halt d).st, I (halt d).sp, I (halt d).tg, I (halt d).mv]) ∧
              Den Try.prog 24
                  [AV.agg [I m.mx, I m.up, I m.dn, I m.st],
                    AV.agg [I (halt d).st, I (halt d).sp, I (halt d).tg, I (halt d).mv], I (240 : Int)]
                  (AV.agg
                    [I (step m (halt d) (240 : Int)).st, I (step m (halt d) (240 : Int)).sp,
                      I (step m (halt d) (240 : Int)).tg, I (step m (halt d) (240 : Int)).mv]) ∧
                br (d.st == (3 : Int))
                  (br ((step m (halt d) (240 : Int)).sp == (0 : Int))
                    (Den Try.prog 28
                        [AV.agg [I d.st, I d.sp, I d.tg, I d.mv],
                          AV.agg
                            [I (step m d (1 : Int)).st, I (step m d (1 : Int)).sp, I (step m d (1 : Int)).tg,
                              I (step m d (1 : Int)).mv]]
                        (I (far d (step m d (1 : Int)))) ∧
                      some (Bo (far d (step m d (1 : Int)) == (step m d (1 : Int)).sp)) = some r)
                    (some (Bo false) = some r))
                  (br ((step m (halt d) (240 : Int)).st == (0 : Int))
                    (br ((step m (halt d) (240 : Int)).sp == (0 : Int))
                      (Den Try.prog 28
                          [AV.agg [I d.st, I d.sp, I d.tg, I d.mv],
                            AV.agg
                              [I (step m d (1 : Int)).st, I (step m d (1 : Int)).sp, I (step m d (1 : Int)).tg,
                                I (step m d (1 : Int)).mv]]
                          (I (far d (step m d (1 : Int)))) ∧
                        some (Bo (far d (step m d (1 : Int)) == (step m d (1 : Int)).sp)) = some r)
                      (some (Bo false) = some r))
                    (some (Bo false) = some r)))))) := by kernel_rfl

theorem en_targets (m : Motor) (d : Drive) (r : AV) (h : bodyEv Γ Try.prog Try.f7 kp7 [m.av, d.av] r) : Den Try.prog 7 [m.av, d.av] r :=
  den_of_ev mixed Try.func7 (by kernel_rfl) (by kernel_rfl) (Nat.le_of_ble_eq_true (by kernel_rfl)) h

theorem vc_adds (m : Motor) (d : Drive) (x y : Int) (r : AV) : (bodyEv Γ Try.prog Try.f8 kp8 [m.av, d.av, .agg [I x, I y]] r) =
  (Den Try.prog 10 [] (Bo true) ∧
  Den Try.prog 15 [AV.agg [I m.mx, I m.up, I m.dn, I m.st], AV.agg [I d.st, I d.sp, I d.tg, I d.mv]]
      (Bo (right m && valid m d)) ∧
    br (!(right m && valid m d)) (some (Bo true) = some r)
      ((Int.NonNeg ((0 : Int) - (0 : Int)) ∧ Int.NonNeg (↑2 - ((0 : Int) + (1 : Int)))) ∧
        (Int.NonNeg ((1 : Int) - (0 : Int)) ∧ Int.NonNeg (↑2 - ((1 : Int) + (1 : Int)))) ∧
          (Int.NonNeg ((0 : Int) - (0 : Int)) ∧ Int.NonNeg (↑2 - ((0 : Int) + (1 : Int)))) ∧
            Den Try.prog 24
                [AV.agg [I m.mx, I m.up, I m.dn, I m.st], AV.agg [I d.st, I d.sp, I d.tg, I d.mv], I x]
                (AV.agg [I (step m d x).st, I (step m d x).sp, I (step m d x).tg, I (step m d x).mv]) ∧
              Den Try.prog 24
                  [AV.agg [I m.mx, I m.up, I m.dn, I m.st], AV.agg [I d.st, I d.sp, I d.tg, I d.mv],
                    I (min (max x (0 : Int)) (3600 : Int))]
                  (AV.agg
                    [I (step m d (min (max x (0 : Int)) (3600 : Int))).st,
                      I (step m d (min (max x (0 : Int)) (3600 : Int))).sp,
                      I (step m d (min (max x (0 : Int)) (3600 : Int))).tg,
                      I (step m d (min (max x (0 : Int)) (3600 : Int))).mv]) ∧
                br
                  (!((step m d x).st == (step m d (min (max x (0 : Int)) (3600 : Int))).st &&
                      ((step m d x).sp == (step m d (min (max x (0 : Int)) (3600 : Int))).sp &&
                        ((step m d x).tg == (step m d (min (max x (0 : Int)) (3600 : Int))).tg &&
                          ((step m d x).mv == (step m d (min (max x (0 : Int)) (3600 : Int))).mv && true)))))
                  (some (Bo false) = some r)
                  (Den Try.prog 24
                      [AV.agg [I m.mx, I m.up, I m.dn, I m.st], AV.agg [I d.st, I d.sp, I d.tg, I d.mv], I (0 : Int)]
                      (AV.agg
                        [I (step m d (0 : Int)).st, I (step m d (0 : Int)).sp, I (step m d (0 : Int)).tg,
                          I (step m d (0 : Int)).mv]) ∧
                    br
                      (!((step m d (0 : Int)).st == d.st &&
                          ((step m d (0 : Int)).sp == d.sp &&
                            ((step m d (0 : Int)).tg == d.tg && ((step m d (0 : Int)).mv == d.mv && true)))))
                      (some (Bo false) = some r)
                      (br
                        (decide
                          (IntKind.wrap IntKind.i64
                              (min (max x (0 : Int)) (3600 : Int) + min (max y (0 : Int)) (3600 : Int)) >
                            (3600 : Int)))
                        (some (Bo true) = some r)
                        (Den Try.prog 24
                            [AV.agg [I m.mx, I m.up, I m.dn, I m.st], AV.agg [I d.st, I d.sp, I d.tg, I d.mv],
                              I (min (max x (0 : Int)) (3600 : Int))]
                            (AV.agg
                              [I (step m d (min (max x (0 : Int)) (3600 : Int))).st,
                                I (step m d (min (max x (0 : Int)) (3600 : Int))).sp,
                                I (step m d (min (max x (0 : Int)) (3600 : Int))).tg,
                                I (step m d (min (max x (0 : Int)) (3600 : Int))).mv]) ∧
                          Den Try.prog 24
                              [AV.agg [I m.mx, I m.up, I m.dn, I m.st],
                                AV.agg
                                  [I (step m d (min (max x (0 : Int)) (3600 : Int))).st,
                                    I (step m d (min (max x (0 : Int)) (3600 : Int))).sp,
                                    I (step m d (min (max x (0 : Int)) (3600 : Int))).tg,
                                    I (step m d (min (max x (0 : Int)) (3600 : Int))).mv],
                                I (min (max y (0 : Int)) (3600 : Int))]
                              (AV.agg
                                [I
                                    (step m (step m d (min (max x (0 : Int)) (3600 : Int)))
                                        (min (max y (0 : Int)) (3600 : Int))).st,
                                  I
                                    (step m (step m d (min (max x (0 : Int)) (3600 : Int)))
                                        (min (max y (0 : Int)) (3600 : Int))).sp,
                                  I
                                    (step m (step m d (min (max x (0 : Int)) (3600 : Int)))
                                        (min (max y (0 : Int)) (3600 : Int))).tg,
                                  I
                                    (step m (step m d (min (max x (0 : Int)) (3600 : Int)))
                                        (min (max y (0 : Int)) (3600 : Int))).mv]) ∧
                            Den Try.prog 24
                                [AV.agg [I m.mx, I m.up, I m.dn, I m.st], AV.agg [I d.st, I d.sp, I d.tg, I d.mv],
                                  I
                                    (IntKind.wrap IntKind.i64
                                      (min (max x (0 : Int)) (3600 : Int) + min (max y (0 : Int)) (3600 : Int)))]
                                (AV.agg
                                  [I
                                      (step m d
                                          (IntKind.wrap IntKind.i64
                                            (min (max x (0 : Int)) (3600 : Int) +
                                              min (max y (0 : Int)) (3600 : Int)))).st,
                                    I
                                      (step m d
                                          (IntKind.wrap IntKind.i64
                                            (min (max x (0 : Int)) (3600 : Int) +
                                              min (max y (0 : Int)) (3600 : Int)))).sp,
                                    I
                                      (step m d
                                          (IntKind.wrap IntKind.i64
                                            (min (max x (0 : Int)) (3600 : Int) +
                                              min (max y (0 : Int)) (3600 : Int)))).tg,
                                    I
                                      (step m d
                                          (IntKind.wrap IntKind.i64
                                            (min (max x (0 : Int)) (3600 : Int) +
                                              min (max y (0 : Int)) (3600 : Int)))).mv]) ∧
                              some
                                  (Bo
                                    ((step m (step m d (min (max x (0 : Int)) (3600 : Int)))
                                            (min (max y (0 : Int)) (3600 : Int))).st ==
                                        (step m d
                                            (IntKind.wrap IntKind.i64
                                              (min (max x (0 : Int)) (3600 : Int) +
                                                min (max y (0 : Int)) (3600 : Int)))).st &&
                                      ((step m (step m d (min (max x (0 : Int)) (3600 : Int)))
                                              (min (max y (0 : Int)) (3600 : Int))).sp ==
                                          (step m d
                                              (IntKind.wrap IntKind.i64
                                                (min (max x (0 : Int)) (3600 : Int) +
                                                  min (max y (0 : Int)) (3600 : Int)))).sp &&
                                        ((step m (step m d (min (max x (0 : Int)) (3600 : Int)))
                                                (min (max y (0 : Int)) (3600 : Int))).tg ==
                                            (step m d
                                                (IntKind.wrap IntKind.i64
                                                  (min (max x (0 : Int)) (3600 : Int) +
                                                    min (max y (0 : Int)) (3600 : Int)))).tg &&
                                          ((step m (step m d (min (max x (0 : Int)) (3600 : Int)))
                                                  (min (max y (0 : Int)) (3600 : Int))).mv ==
                                              (step m d
                                                  (IntKind.wrap IntKind.i64
                                                    (min (max x (0 : Int)) (3600 : Int) +
                                                      min (max y (0 : Int)) (3600 : Int)))).mv &&
                                            true))))) =
                                some r))))) := by kernel_rfl

theorem en_adds (m : Motor) (d : Drive) (x y : Int) (r : AV) (h : bodyEv Γ Try.prog Try.f8 kp8 [m.av, d.av, .agg [I x, I y]] r) : Den Try.prog 8 [m.av, d.av, .agg [I x, I y]] r :=
  den_of_ev mixed Try.func8 (by kernel_rfl) (by kernel_rfl) (Nat.le_of_ble_eq_true (by kernel_rfl)) h

theorem vl_dStep (m : Motor) (z : Drive) (n k : Int) (r : AV) (N : St → Prop) : (evS Γ Try.prog Try.f24.ntmps kp24 [N] (PostA Try.prog Try.f24.results.toList r) 10000 (.code (codeOf Try.f24 [1,0,1,0,0]) :: .nxt 0 :: [It.blk 0, It.code (codeOf Try.f24 [1, 1])]) ⟨[(3, .ptr 0 0), (4, .ptr 1 0), (6, .ptr 2 0), (9, I n), (10, I k)], [.var 23 m.cs, .var 25 z.cs, .var 25 zeroD.cs]⟩) =
  (br (decide (k < n))
  (Den Try.prog 31 [AV.agg [I m.mx, I m.up, I m.dn, I m.st], AV.agg [I z.st, I z.sp, I z.tg, I z.mv]]
      (I (next m z)) ∧
    ((1125899906842625 : Int) = (0 : Int) → False) ∧
      br (z.st == (2 : Int))
        (br (next m z == (0 : Int))
          (N
            (St.mk
              [(3, AV.ptr 0 0), (4, AV.ptr 1 0),
                (6, AV.ptr 2 0), (9, I n),
                (10, I (IntKind.wrap IntKind.i64 (k + (1 : Int))))]
              [Box.var 23 [I m.mx, I m.up, I m.dn, I m.st],
                Box.var 25
                  [I (0 : Int), I (next m z), I z.tg,
                    I (Int.tmod (IntKind.wrap IntKind.i64 (z.mv + next m z)) (1125899906842625 : Int))],
                Box.var 25 [I (0 : Int), I (0 : Int), I (0 : Int), I (0 : Int)]]))
          (N
            (St.mk
              [(3, AV.ptr 0 0), (4, AV.ptr 1 0),
                (6, AV.ptr 2 0), (9, I n),
                (10, I (IntKind.wrap IntKind.i64 (k + (1 : Int))))]
              [Box.var 23 [I m.mx, I m.up, I m.dn, I m.st],
                Box.var 25
                  [I z.st, I (next m z), I z.tg,
                    I (Int.tmod (IntKind.wrap IntKind.i64 (z.mv + next m z)) (1125899906842625 : Int))],
                Box.var 25 [I (0 : Int), I (0 : Int), I (0 : Int), I (0 : Int)]])))
        (N
          (St.mk
            [(3, AV.ptr 0 0), (4, AV.ptr 1 0),
              (6, AV.ptr 2 0), (9, I n),
              (10, I (IntKind.wrap IntKind.i64 (k + (1 : Int))))]
            [Box.var 23 [I m.mx, I m.up, I m.dn, I m.st],
              Box.var 25
                [I z.st, I (next m z), I z.tg,
                  I (Int.tmod (IntKind.wrap IntKind.i64 (z.mv + next m z)) (1125899906842625 : Int))],
              Box.var 25 [I (0 : Int), I (0 : Int), I (0 : Int), I (0 : Int)]])))
  (some (AV.agg [I z.st, I z.sp, I z.tg, I z.mv]) = some r)) := by kernel_rfl

theorem vl_rStep (m : Motor) (z : Drive) (n k : Int) (r : AV) (N : St → Prop) : (evS Γ Try.prog Try.f25.ntmps kp25 [N] (PostA Try.prog Try.f25.results.toList r) 10000 (.code (codeOf Try.f25 [1,0,1,0,0]) :: .nxt 0 :: [It.blk 0, It.code (codeOf Try.f25 [1, 1])]) ⟨[(2, I n), (3, .ptr 0 0), (4, .ptr 1 0), (6, .ptr 2 0), (7, I k)], [.var 23 m.cs, .var 25 z.cs, .var 25 zeroD.cs]⟩) =
  (br (decide (k < n))
  (br (decide (k < (3600 : Int)))
    (Den Try.prog 32 [AV.agg [I m.mx, I m.up, I m.dn, I m.st], AV.agg [I z.st, I z.sp, I z.tg, I z.mv]]
        (I (next m z)) ∧
      ((1125899906842625 : Int) = (0 : Int) → False) ∧
        br (z.st == (2 : Int))
          (br (next m z == (0 : Int))
            (N
              (St.mk
                [(2, I n), (3, AV.ptr 0 0), (4, AV.ptr 1 0),
                  (6, AV.ptr 2 0), (7, I (IntKind.wrap IntKind.i64 (k + (1 : Int))))]
                [Box.var 23 [I m.mx, I m.up, I m.dn, I m.st],
                  Box.var 25
                    [I (0 : Int), I (next m z), I z.tg,
                      I (Int.tmod (IntKind.wrap IntKind.i64 (z.mv + next m z)) (1125899906842625 : Int))],
                  Box.var 25 [I (0 : Int), I (0 : Int), I (0 : Int), I (0 : Int)]]))
            (N
              (St.mk
                [(2, I n), (3, AV.ptr 0 0), (4, AV.ptr 1 0),
                  (6, AV.ptr 2 0), (7, I (IntKind.wrap IntKind.i64 (k + (1 : Int))))]
                [Box.var 23 [I m.mx, I m.up, I m.dn, I m.st],
                  Box.var 25
                    [I z.st, I (next m z), I z.tg,
                      I (Int.tmod (IntKind.wrap IntKind.i64 (z.mv + next m z)) (1125899906842625 : Int))],
                  Box.var 25 [I (0 : Int), I (0 : Int), I (0 : Int), I (0 : Int)]])))
          (N
            (St.mk
              [(2, I n), (3, AV.ptr 0 0), (4, AV.ptr 1 0),
                (6, AV.ptr 2 0), (7, I (IntKind.wrap IntKind.i64 (k + (1 : Int))))]
              [Box.var 23 [I m.mx, I m.up, I m.dn, I m.st],
                Box.var 25
                  [I z.st, I (next m z), I z.tg,
                    I (Int.tmod (IntKind.wrap IntKind.i64 (z.mv + next m z)) (1125899906842625 : Int))],
                Box.var 25 [I (0 : Int), I (0 : Int), I (0 : Int), I (0 : Int)]])))
    (some (AV.agg [I z.st, I z.sp, I z.tg, I z.mv]) = some r))
  (some (AV.agg [I z.st, I z.sp, I z.tg, I z.mv]) = some r)) := by kernel_rfl

theorem vl_dDist (m : Motor) (z : Drive) (k : Int) (r : AV) (N : St → Prop) : (evS Γ Try.prog Try.f26.ntmps kp26 [N] (PostA Try.prog Try.f26.results.toList r) 10000 (.code (codeOf Try.f26 [1,1,0,1,0,0]) :: .nxt 0 :: [It.blk 0, It.code (codeOf Try.f26 [1, 1, 1])]) ⟨[(2, .ptr 0 0), (3, .ptr 1 0), (5, I k)], [.var 23 m.cs, .var 25 z.cs]⟩) =
  (br (decide (z.sp > (0 : Int)))
  (br (decide (m.st > (0 : Int)))
    (Den Try.prog 31 [AV.agg [I m.mx, I m.up, I m.dn, I m.st], AV.agg [I z.st, I z.sp, I z.tg, I z.mv]]
        (I (next m z)) ∧
      N
        (St.mk
          [(2, AV.ptr 0 0), (3, AV.ptr 1 0),
            (5, I (IntKind.wrap IntKind.i64 (k + next m z)))]
          [Box.var 23 [I m.mx, I m.up, I m.dn, I m.st],
            Box.var 25 [I z.st, I (next m z), I z.tg, I z.mv]]))
    (some (I k) = some r))
  (some (I k) = some r)) := by kernel_rfl

theorem vl_rDist (m : Motor) (k v : Int) (r : AV) (N : St → Prop) : (evS Γ Try.prog Try.f27.ntmps kp27 [N] (PostA Try.prog Try.f27.results.toList r) 10000 (.code (codeOf Try.f27 [1,1,0,1,0,0]) :: .nxt 0 :: [It.blk 0, It.code (codeOf Try.f27 [1, 1, 1])]) ⟨[(2, .ptr 0 0), (5, I k), (6, I v)], [.var 23 m.cs]⟩) =
  (br (decide (v > (0 : Int)))
  (N
    (St.mk
      [(2, AV.ptr 0 0), (5, I (IntKind.wrap IntKind.i64 (k + v))),
        (6, I (IntKind.wrap IntKind.i64 (v - m.st)))]
      [Box.var 23 [I m.mx, I m.up, I m.dn, I m.st]]))
  (some (I k) = some r)) := by kernel_rfl

theorem vl_stops (m : Motor) (d x z : Drive) (n k mo : Int) (r : AV) (N : St → Prop) : (evS Γ Try.prog Try.f6.ntmps kp6 [N] (PostA Try.prog Try.f6.results.toList r) 10000 (.code (codeOf Try.f6 [1,1,1,1,1,1,0,1,0,0]) :: .nxt 0 :: [It.blk 0, It.code (codeOf Try.f6 [1, 1, 1, 1, 1, 1, 1])]) ⟨[(2, I n), (3, .ptr 0 0), (4, .ptr 1 0), (7, .ptr 2 0), (8, I mo), (9, .ptr 3 0), (10, I k)], [.var 23 m.cs, .var 25 d.cs, .var 25 x.cs, .var 25 z.cs]⟩) =
  (br (decide (k < n))
  (br (decide (k < (300 : Int)))
    (Den Try.prog 24
        [AV.agg [I m.mx, I m.up, I m.dn, I m.st], AV.agg [I z.st, I z.sp, I z.tg, I z.mv], I (1 : Int)]
        (AV.agg
          [I (step m z (1 : Int)).st, I (step m z (1 : Int)).sp, I (step m z (1 : Int)).tg,
            I (step m z (1 : Int)).mv]) ∧
      br ((step m z (1 : Int)).st != (3 : Int)) (some (Bo false) = some r)
        (br ((step m z (1 : Int)).tg != (0 : Int)) (some (Bo false) = some r)
          (br (decide ((step m z (1 : Int)).sp < (0 : Int))) (some (Bo false) = some r)
            (br (decide ((step m z (1 : Int)).sp > z.sp)) (some (Bo false) = some r)
              (Den Try.prog 28
                  [AV.agg [I x.st, I x.sp, I x.tg, I x.mv],
                    AV.agg
                      [I (step m z (1 : Int)).st, I (step m z (1 : Int)).sp, I (step m z (1 : Int)).tg,
                        I (step m z (1 : Int)).mv]]
                  (I (far x (step m z (1 : Int)))) ∧
                br (decide (far x (step m z (1 : Int)) > mo)) (some (Bo false) = some r)
                  (Den Try.prog 28
                      [AV.agg [I x.st, I x.sp, I x.tg, I x.mv],
                        AV.agg
                          [I (step m z (1 : Int)).st, I (step m z (1 : Int)).sp, I (step m z (1 : Int)).tg,
                            I (step m z (1 : Int)).mv]]
                      (I (far x (step m z (1 : Int)))) ∧
                    br ((step m z (1 : Int)).sp == (0 : Int))
                      (br (!(far x (step m z (1 : Int)) == mo) == true) (some (Bo false) = some r)
                        (N
                          (St.mk
                            [(2, I n), (3, AV.ptr 0 0),
                              (4, AV.ptr 1 0), (7, AV.ptr 2 0),
                              (8, I mo), (9, AV.ptr 3 0),
                              (10, I (IntKind.wrap IntKind.i64 (k + (1 : Int))))]
                            [Box.var 23 [I m.mx, I m.up, I m.dn, I m.st],
                              Box.var 25 [I d.st, I d.sp, I d.tg, I d.mv],
                              Box.var 25 [I x.st, I x.sp, I x.tg, I x.mv],
                              Box.var 25
                                [I (step m z (1 : Int)).st, I (step m z (1 : Int)).sp, I (step m z (1 : Int)).tg,
                                  I (step m z (1 : Int)).mv]])))
                      (br (!(far x (step m z (1 : Int)) == mo) == decide ((step m z (1 : Int)).sp ≤ m.st))
                        (some (Bo false) = some r)
                        (N
                          (St.mk
                            [(2, I n), (3, AV.ptr 0 0),
                              (4, AV.ptr 1 0), (7, AV.ptr 2 0),
                              (8, I mo), (9, AV.ptr 3 0),
                              (10, I (IntKind.wrap IntKind.i64 (k + (1 : Int))))]
                            [Box.var 23 [I m.mx, I m.up, I m.dn, I m.st],
                              Box.var 25 [I d.st, I d.sp, I d.tg, I d.mv],
                              Box.var 25 [I x.st, I x.sp, I x.tg, I x.mv],
                              Box.var 25
                                [I (step m z (1 : Int)).st, I (step m z (1 : Int)).sp, I (step m z (1 : Int)).tg,
                                  I (step m z (1 : Int)).mv]])))))))))
    (Den Try.prog 24
        [AV.agg [I m.mx, I m.up, I m.dn, I m.st], AV.agg [I x.st, I x.sp, I x.tg, I x.mv], I (240 : Int)]
        (AV.agg
          [I (step m x (240 : Int)).st, I (step m x (240 : Int)).sp, I (step m x (240 : Int)).tg,
            I (step m x (240 : Int)).mv]) ∧
      br ((step m x (240 : Int)).sp == (0 : Int))
        (Den Try.prog 28
            [AV.agg [I x.st, I x.sp, I x.tg, I x.mv],
              AV.agg
                [I (step m x (240 : Int)).st, I (step m x (240 : Int)).sp, I (step m x (240 : Int)).tg,
                  I (step m x (240 : Int)).mv]]
            (I (far x (step m x (240 : Int)))) ∧
          br (far x (step m x (240 : Int)) == mo) (some (Bo (decide (d.sp ≤ m.mx))) = some r)
            (some (Bo false) = some r))
        (some (Bo false) = some r)))
  (Den Try.prog 24
      [AV.agg [I m.mx, I m.up, I m.dn, I m.st], AV.agg [I x.st, I x.sp, I x.tg, I x.mv], I (240 : Int)]
      (AV.agg
        [I (step m x (240 : Int)).st, I (step m x (240 : Int)).sp, I (step m x (240 : Int)).tg,
          I (step m x (240 : Int)).mv]) ∧
    br ((step m x (240 : Int)).sp == (0 : Int))
      (Den Try.prog 28
          [AV.agg [I x.st, I x.sp, I x.tg, I x.mv],
            AV.agg
              [I (step m x (240 : Int)).st, I (step m x (240 : Int)).sp, I (step m x (240 : Int)).tg,
                I (step m x (240 : Int)).mv]]
          (I (far x (step m x (240 : Int)))) ∧
        br (far x (step m x (240 : Int)) == mo) (some (Bo (decide (d.sp ≤ m.mx))) = some r) (some (Bo false) = some r))
      (some (Bo false) = some r))) := by kernel_rfl

end Go.Proofs.Ytjlhngfmghipoaa
