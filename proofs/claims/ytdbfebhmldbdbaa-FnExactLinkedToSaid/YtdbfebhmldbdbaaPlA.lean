/-
  The plain values of the program's functions on integers. No program.
-/
import Derived.Test.YtdbfebhmldbdbaaPl
namespace Go.Proofs.Ytdbfebhmldbdbaa.Pl
set_option linter.unusedVariables false
set_option linter.unusedSimpArgs false
def clockOf (t : Int) : Int × Int × Int := if inB t 0 10000000 = true then (t % 10000 * 1440 / 10000 / 60, t % 10000 * 1440 / 10000 % 60, 0) else (0, 0, 2)
def timeOf (d h m : Int) : Int × Int :=
  if inB d 0 100000 = true ∧ inB h 0 23 = true ∧ inB m 0 59 = true then
    (if d * 10000 + ((60 * h + m) * 10000 + 1439) / 1440 ≤ 10000000 then (d * 10000 + ((60 * h + m) * 10000 + 1439) / 1440, 0) else (0, 5))
  else (0, 2)
theorem timeOf_ceil {x : Int} (h : 0 ≤ x) (k : x ≤ 14400000) : -fdiv (-x) 1440 = (x + 1439) / 1440 ∧ 0 ≤ -fdiv (-x) 1440 ∧ -fdiv (-x) 1440 ≤ 10000 := by
  unfold fdiv; omega
def minI (a b : Int) : Int := if a < b then a else b
def maxI (a b : Int) : Int := if b < a then a else b
def apart (a b : Int) : Int × Int := if inB a 0 86399 = true ∧ inB b 0 86399 = true then (minI (absI (a - b)) (86400 - absI (a - b)), 0) else (0, 2)
def roundF (n d : Int) : Int × Int := if inB d 1 1000000000 = true ∧ inB n (-1000000000000000) 1000000000000000 = true then (near n d, 0) else (0, 1)
theorem mul_bd {x y X Y : Int} (h1 : -X ≤ x) (h2 : x ≤ X) (h3 : -Y ≤ y) (h4 : y ≤ Y) (hX : 0 ≤ X) (hY : 0 ≤ Y) : -(X * Y) ≤ x * y ∧ x * y ≤ X * Y := by
  have a1 : x.natAbs ≤ X.natAbs := by omega
  have a2 : y.natAbs ≤ Y.natAbs := by omega
  have a3 : (x * y).natAbs ≤ (X * Y).natAbs := by rw [Int.natAbs_mul, Int.natAbs_mul]; exact Nat.mul_le_mul a1 a2
  have a4 : 0 ≤ X * Y := Int.mul_nonneg hX hY
  omega
def between (a b p q : Int) : Int × Int :=
  if inB a (-2000) 20000 = true ∧ inB b (-2000) 20000 = true ∧ inB p 0 50 = true ∧ inB q 0 50 = true then
    (if p + q = 0 then (0, 6) else (near (a * (p + q) + (b - a) * p) (p + q), 0))
  else (0, 2)
def bySteps (a s n d : Int) : Int × Int :=
  if inB a (-2000) 20000 = true ∧ inB s (-50) 50 = true ∧ inB n (-1000000) 1000000 = true ∧ inB d 1 1000 = true then
    (if inB (near (a * d + s * n) d) (-2000) 20000 = true then (near (a * d + s * n) d, 0) else (0, 5))
  else (0, 2)
def stepSize (a b s : Int) : Int × Int × Int :=
  if inB a (-2000) 20000 = true ∧ inB b (-2000) 20000 = true ∧ inB s 1 50 = true then (lowN (b - a) s, lowD (b - a) s, 0) else (0, 0, 2)
def hours (a b : Int) : Int × Int × Int :=
  if inB a 0 10000000 = true ∧ inB b 0 10000000 = true then (lowN (24 * (b - a)) 10000, lowD (24 * (b - a)) 10000, 0) else (0, 0, 2)
/-- Is Y, M, D a date of the program's days? -/
def vdate (y m d : Int) : Bool := inB y 2001 2300 && inB m 1 12 && inB d 1 (mdays y m) && decide (num y m d ≤ 100000)
def vdateA (y m d : Int) : Bool := inB y 2001 2300 && inB m 1 12 && inB d 1 (mdays y m)
def dayNum (y m d : Int) : Int × Int := if vdate y m d = true then (num y m d, 0) else (0, 1)
theorem num_bd {y m d : Int} (h1 : 2001 ≤ y) (h2 : y ≤ 2300) (h3 : 1 ≤ m) (h4 : m ≤ 12) (h5 : 1 ≤ d) (h6 : d ≤ 31) : 0 ≤ num y m d ∧ num y m d ≤ 1000000 := by
  have h := cum_bd y (m - 1).toNat
  unfold num yst; omega
theorem vdateA_true {y m d : Int} (h : vdateA y m d = true) : 2001 ≤ y ∧ y ≤ 2300 ∧ 1 ≤ m ∧ m ≤ 12 ∧ 1 ≤ d ∧ d ≤ 31 := by
  simp only [vdateA, Bool.and_eq_true] at h
  have a := inB_true h.1.1
  have b := inB_true h.1.2
  have c := inB_true h.2
  have e := mdays_bd y m
  omega
theorem vdate_true {y m d : Int} (h : vdate y m d = true) : 2001 ≤ y ∧ y ≤ 2300 ∧ 1 ≤ m ∧ m ≤ 12 ∧ 1 ≤ d ∧ d ≤ 31 := by
  simp only [vdate, Bool.and_eq_true] at h
  exact vdateA_true (by simp only [vdateA, Bool.and_eq_true]; exact h.1)
end Go.Proofs.Ytdbfebhmldbdbaa.Pl
