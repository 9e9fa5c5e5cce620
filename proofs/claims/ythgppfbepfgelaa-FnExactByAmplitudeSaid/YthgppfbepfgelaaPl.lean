/-
  Plain lemmas on integers and dates: bounds, floors, rounding, greatest common divisors, the calendar. No program, no conditions beyond those in each statement.
-/
namespace Go.Proofs.Ythgppfbepfgelaa.Pl
set_option linter.unusedVariables false
set_option linter.unusedSimpArgs false
/-- 'lo ≤ n ≤ hi', as a bool that simp does not open. -/
def inB (n lo hi : Int) : Bool := decide (lo ≤ n) && decide (n ≤ hi)
theorem inB_true {n lo hi : Int} (h : inB n lo hi = true) : lo ≤ n ∧ n ≤ hi := by simpa [inB] using h
theorem inB_mk {n lo hi : Int} (h : lo ≤ n) (k : n ≤ hi) : inB n lo hi = true := by simp [inB, h, k]
theorem inB_false {n lo hi : Int} (h : inB n lo hi = false) : n < lo ∨ hi < n := by
  simp [inB] at h; omega
theorem inB_no {n lo hi : Int} (h : n < lo ∨ hi < n) : inB n lo hi = false := by
  rcases h with h | h
  · have : ¬ lo ≤ n := by omega
    simp [inB, this]
  · have : ¬ n ≤ hi := by omega
    simp [inB, this]
/-- A quotient rounded down, as the Go text reckons it. -/
theorem floor_eq {a b : Int} (hb : 0 < b) : (if a.tmod b < 0 then a.tdiv b - 1 else a.tdiv b) = a / b := by
  rw [Int.tdiv_eq_ediv, Int.tmod_eq_emod, Int.sign_eq_one_of_pos hb]
  have h1 := Int.emod_nonneg a (Int.ne_of_gt hb)
  have h2 := Int.emod_lt_of_pos a hb
  have h3 : (b.natAbs : Int) = b := Int.natAbs_of_nonneg (by omega)
  by_cases h : 0 ≤ a ∨ b ∣ a
  · rw [if_pos h, if_pos h, if_neg (by simp; omega)]; omega
  · rw [if_neg h, if_neg h, if_pos (by omega)]; omega
theorem floor_lt {a b : Int} (hb : 0 < b) (h : a.tmod b < 0) : a.tdiv b - 1 = a / b := by
  have := floor_eq (a := a) hb; rwa [if_pos h] at this
theorem floor_ge {a b : Int} (hb : 0 < b) (h : ¬ a.tmod b < 0) : a.tdiv b = a / b := by
  have := floor_eq (a := a) hb; rwa [if_neg h] at this
/-- The nearest integer of a quotient, halves upward. -/
def near (n d : Int) : Int := (2 * n + d) / (2 * d)
theorem near_eq {n d : Int} (hd : 0 < d) : (if d - (n - n / d * d) ≤ n - n / d * d then n / d + 1 else n / d) = near n d := by
  unfold near
  have h1 := Int.emod_nonneg n (Int.ne_of_gt hd)
  have h2 := Int.emod_lt_of_pos n hd
  have h3 := Int.mul_ediv_add_emod n d
  have h4 : n / d * d = d * (n / d) := Int.mul_comm _ _
  generalize hq : n / d = q at *
  generalize hr : n % d = r at *
  symm
  by_cases h : d - (n - q * d) ≤ n - q * d
  · rw [if_pos h, Int.ediv_eq_iff_of_pos (by omega)]
    have e : (q + 1) * (2 * d) = 2 * (d * q) + 2 * d := by rw [Int.add_mul, Int.mul_left_comm, Int.mul_comm q d]; omega
    omega
  · rw [if_neg h, Int.ediv_eq_iff_of_pos (by omega)]
    have e : q * (2 * d) = 2 * (d * q) := by rw [Int.mul_left_comm, Int.mul_comm q d]
    omega
/-- The greatest common divisor, a step. -/
theorem gcd_tmod (a b : Int) : Int.gcd b (a.tmod b) = Int.gcd a b := by
  have h : a.tmod b = a - a.tdiv b * b := by have := Int.tmod_add_mul_tdiv a b; rw [Int.mul_comm] at this; omega
  rw [h, Int.gcd_sub_mul_right_right, Int.gcd_comm]
def absI (n : Int) : Int := if n < 0 then -n else n
theorem absI_bd {n m : Int} (h : -m ≤ n) (k : n ≤ m) : 0 ≤ absI n ∧ absI n ≤ m := by unfold absI; split <;> omega
/-- The quotient rounded down, behind a name. -/
def fdiv (a b : Int) : Int := a / b
theorem tdiv_bd {a b : Int} (hb : 0 < b) (h : -100000000000000000 ≤ a) (k : a ≤ 100000000000000000) : -100000000000000000 ≤ a.tdiv b ∧ a.tdiv b ≤ 100000000000000000 := by
  have h1 : (a.tdiv b).natAbs = a.natAbs / b.natAbs := Int.natAbs_tdiv a b
  have h2 := Nat.div_le_self a.natAbs b.natAbs
  omega
theorem fdiv_bd {a b : Int} (hb : 0 < b) (h : -100000000000000000 ≤ a) (k : a ≤ 100000000000000000) : -100000000000000001 ≤ fdiv a b ∧ fdiv a b ≤ 100000000000000000 := by
  have h1 := tdiv_bd hb h k
  unfold fdiv
  rw [← floor_eq hb]
  split <;> omega
theorem fdiv_mul {a b : Int} (hb : 0 < b) : a - b < fdiv a b * b ∧ fdiv a b * b ≤ a := by
  unfold fdiv
  have h1 := Int.emod_nonneg a (Int.ne_of_gt hb)
  have h2 := Int.emod_lt_of_pos a hb
  have h3 := Int.mul_ediv_add_emod a b
  have h4 : a / b * b = b * (a / b) := Int.mul_comm _ _
  omega
theorem tmod_bd {a b : Int} (hb : b ≠ 0) (h : -100000000000000000 ≤ b) (k : b ≤ 100000000000000000) : -100000000000000000 ≤ a.tmod b ∧ a.tmod b ≤ 100000000000000000 ∧ (a.tmod b).natAbs < b.natAbs := by
  have h1 : (a.tmod b).natAbs = a.natAbs % b.natAbs := Int.natAbs_tmod a b
  have h2 := Nat.mod_lt a.natAbs (show 0 < b.natAbs by omega)
  omega
theorem near_yes {n d : Int} (hd : 0 < d) (h : d - (n - fdiv n d * d) ≤ n - fdiv n d * d) : fdiv n d + 1 = near n d := by
  have := near_eq (n := n) hd; unfold fdiv at h; rw [if_pos h] at this; exact this
theorem near_no {n d : Int} (hd : 0 < d) (h : ¬ d - (n - fdiv n d * d) ≤ n - fdiv n d * d) : fdiv n d = near n d := by
  have := near_eq (n := n) hd; unfold fdiv at h; rw [if_neg h] at this; exact this
theorem near_bd {n d : Int} (hd : 0 < d) (h : -10000000000000000 ≤ n) (k : n ≤ 10000000000000000) : -10000000000000002 ≤ near n d ∧ near n d ≤ 10000000000000002 := by
  have h0 := near_eq (n := n) hd
  have h1 : n / d ≤ 10000000000000000 ∧ -10000000000000001 ≤ n / d := by
    have a1 := Int.ediv_le_ediv hd k
    have a2 := Int.ediv_le_ediv hd h
    have a3 : (10000000000000000 : Int) / d ≤ 10000000000000000 := Int.ediv_le_self _ (by omega)
    have a4 : -10000000000000001 ≤ (-10000000000000000 : Int) / d := by
      rw [Int.le_ediv_iff_mul_le hd]
      have := Int.mul_le_mul_of_nonneg_left (show (1 : Int) ≤ d by omega) (show (0 : Int) ≤ 10000000000000001 by omega)
      omega
    omega
  rw [← h0]; split <;> omega
/-- The greatest common divisor as an integer. -/
def gcdI (a b : Int) : Int := (Int.gcd a b : Int)
theorem gcdI_step (a b : Int) : gcdI b (a.tmod b) = gcdI a b := by unfold gcdI; rw [gcd_tmod]
theorem gcdI_zero (a : Int) : gcdI a 0 = absI a := by unfold gcdI absI; simp; split <;> omega
theorem gcdI_abs (a b : Int) : gcdI (absI a) b = gcdI a b := by
  unfold gcdI absI; split
  · simp [Int.gcd]
  · rfl
theorem gcdI_bd {a b : Int} (hb : 0 < b) : 1 ≤ gcdI a b ∧ gcdI a b ≤ b := by
  unfold gcdI
  have h1 : 0 < Int.gcd a b := Int.gcd_pos_of_ne_zero_right a (by omega)
  have h2 : (Int.gcd a b : Int) ≤ b := Int.le_of_dvd hb (Int.gcd_dvd_right a b)
  omega
theorem ediv_bd {a b : Int} (hb : 0 < b) (h : 0 ≤ a) : 0 ≤ a / b ∧ a / b ≤ a := ⟨Int.ediv_nonneg h (by omega), Int.ediv_le_self _ h⟩
/-- A fraction in lowest terms. -/
def lowN (n d : Int) : Int := n.tdiv (gcdI n d)
def lowD (n d : Int) : Int := d.tdiv (gcdI n d)
def leap (y : Int) : Bool := (decide (y % 4 = 0) && !decide (y % 100 = 0)) || decide (y % 400 = 0)
def ydays (y : Int) : Int := if leap y = true then 366 else 365
def mdays (y m : Int) : Int := if m = 2 then ydays y - 337 else if m = 4 ∨ m = 6 ∨ m = 9 ∨ m = 11 then 30 else 31
def yst (y : Int) : Int := 365 * (y - 2001) + (y - 2001) / 4 - (y - 2001) / 100 + (y - 2001) / 400
theorem leap_iff (y : Int) : leap y = true ↔ (y % 4 = 0 ∧ ¬ y % 100 = 0) ∨ y % 400 = 0 := by
  simp [leap]
theorem ydays_01 (y : Int) : ydays y = 365 ∨ ydays y = 366 := by unfold ydays; split <;> simp
theorem yst_succ (y : Int) : yst (y + 1) = yst y + ydays y := by
  unfold yst ydays
  by_cases h : leap y = true
  · rw [if_pos h]; have := (leap_iff y).1 h; omega
  · rw [if_neg h]; have := (not_congr (leap_iff y)).1 h; omega
theorem yst_first : yst 2001 = 0 := by decide
theorem mdays_bd (y m : Int) : 28 ≤ mdays y m ∧ mdays y m ≤ 31 := by
  have := ydays_01 y
  unfold mdays; split
  · omega
  · split <;> omega
/-- The days of the first k months. -/
def cum (y : Int) : Nat → Int
  | 0 => 0
  | k + 1 => cum y k + mdays y ((k : Int) + 1)
theorem cum_succ (y : Int) (k : Nat) : cum y (k + 1) = cum y k + mdays y ((k : Int) + 1) := rfl
theorem cum_twelve (y : Int) : cum y 12 = ydays y := by
  simp [cum, mdays]; omega
theorem cum_bd (y : Int) (k : Nat) : 28 * (k : Int) ≤ cum y k ∧ cum y k ≤ 31 * (k : Int) := by
  induction k with
  | zero => simp [cum]
  | succ k ih => have := mdays_bd y ((k : Int) + 1); rw [cum_succ]; omega
theorem cum_mono (y : Int) {j k : Nat} (h : j ≤ k) : cum y j ≤ cum y k := by
  induction h with
  | refl => exact Int.le_refl _
  | step _ ih => have := mdays_bd y; rename_i m _; have := this ((m : Int) + 1); rw [cum_succ]; omega
theorem yst_mono {a b : Int} (h : a ≤ b) : yst a ≤ yst b := by
  obtain ⟨n, rfl⟩ : ∃ n : Nat, b = a + n := ⟨(b - a).toNat, by omega⟩
  clear h
  induction n with
  | zero => simp
  | succ n ih => have := yst_succ (a + n); have := ydays_01 (a + n); rw [show a + ((n + 1 : Nat) : Int) = a + n + 1 from by omega]; omega
/-- The day of a date. -/
def num (y m d : Int) : Int := yst y + cum y (m - 1).toNat + d - 1
/-- Y, M, D is the date of a day. -/
def IsDate (day y m d : Int) : Prop := 2001 ≤ y ∧ yst y ≤ day ∧ day < yst (y + 1) ∧ 1 ≤ m ∧ m ≤ 12 ∧ cum y (m - 1).toNat ≤ day - yst y ∧ day - yst y < cum y m.toNat ∧ d = day - yst y - cum y (m - 1).toNat + 1
theorem IsDate.uniq {day y m d y' m' d' : Int} (h : IsDate day y m d) (k : IsDate day y' m' d') : y = y' ∧ m = m' ∧ d = d' := by
  obtain ⟨_, h1, h2, h3, h4, h5, h6, h7⟩ := h
  obtain ⟨_, k1, k2, k3, k4, k5, k6, k7⟩ := k
  have e : y = y' := by
    rcases Int.lt_trichotomy y y' with hl | he | hl
    · have := yst_mono (show y + 1 ≤ y' by omega); omega
    · exact he
    · have := yst_mono (show y' + 1 ≤ y by omega); omega
  subst e
  have e : m = m' := by
    rcases Int.lt_trichotomy m m' with hl | he | hl
    · have := cum_mono y (show m.toNat ≤ (m' - 1).toNat by omega); omega
    · exact he
    · have := cum_mono y (show m'.toNat ≤ (m - 1).toNat by omega); omega
  subst e
  exact ⟨rfl, rfl, by omega⟩
theorem yst_guess (day : Int) (h : 0 ≤ day) : yst (2001 + day / 366) ≤ day := by
  unfold yst; omega
end Go.Proofs.Ythgppfbepfgelaa.Pl
