/-
  Plain words on decimal numerals: digits, fixed widths, padding. No program.
-/
import Derived.Lib.ItoaNum
import Derived.Lib.ItoaLen
namespace Go.Proofs.YtdplmbndafmlgaaDoor
set_option linter.unusedVariables false
set_option linter.unusedSimpArgs false
def dig (u : Nat) : UInt8 := UInt8.ofNat (48 + u % 10)
/-- The decimal digits of u; none for 0. -/
def dg (u : Nat) : List UInt8 := if h : u = 0 then [] else dg (u / 10) ++ [dig u]
termination_by u
decreasing_by omega
theorem dg_zero : dg 0 = [] := by rw [dg]; simp
theorem dg_pos {u : Nat} (h : u ≠ 0) : dg u = dg (u / 10) ++ [dig u] := by rw [dg, dif_neg h]
theorem dec_small {u : Nat} (h : u < 10) : Lib.decDigits u = [dig u] := by
  rw [Lib.decDigits, dif_pos h, dig, Nat.mod_eq_of_lt h]
theorem dec_big {u : Nat} (h : 10 ≤ u) : Lib.decDigits u = Lib.decDigits (u / 10) ++ [dig u] := by
  rw [Lib.decDigits, dif_neg (by omega)]; rfl
theorem dec_dg : ∀ (m u : Nat), u ≤ m → u ≠ 0 → Lib.decDigits u = dg u
  | 0, u, h, h0 => by omega
  | m + 1, u, h, h0 => by
    rw [dg_pos h0]
    by_cases h1 : u < 10
    · have : u / 10 = 0 := by omega
      rw [dec_small h1, this, dg_zero, List.nil_append]
    · rw [dec_big (by omega), dec_dg m (u / 10) (by omega) (by omega)]
theorem dg_len : ∀ (n u : Nat), u < 10 ^ n → (dg u).length ≤ n
  | 0, u, h => by
    have : u = 0 := by simpa using h
    subst this; rw [dg_zero]; simp
  | n + 1, u, h => by
    by_cases h0 : u = 0
    · subst h0; rw [dg_zero]; simp
    · rw [dg_pos h0, List.length_append]
      have := dg_len n (u / 10) (by rw [Nat.pow_succ] at h; omega)
      simp; omega
theorem dg_len20 {u : Nat} (h : u ≤ 9223372036854775808) : (dg u).length ≤ 20 := dg_len 20 u (by omega)
/-- k digits of u. -/
def pd : Nat → Nat → List UInt8
  | 0, _ => []
  | k + 1, u => pd k (u / 10) ++ [dig u]
theorem pd_len : ∀ (k u : Nat), (pd k u).length = k
  | 0, _ => rfl
  | k + 1, u => by rw [pd, List.length_append, pd_len k]; rfl
/-- Zeros ahead of l, up to k bytes. -/
def padL (k : Nat) (l : List UInt8) : List UInt8 := List.replicate (k - l.length) 48 ++ l
theorem padL_snoc (k : Nat) (l : List UInt8) (d : UInt8) : padL (k + 1) (l ++ [d]) = padL k l ++ [d] := by
  simp [padL]
theorem padL_ge {k : Nat} {l : List UInt8} (h : k ≤ l.length) : padL k l = l := by
  rw [padL, Nat.sub_eq_zero_of_le h]; rfl
theorem padL_lt {k : Nat} {l : List UInt8} (h : l.length < k) : padL k (48 :: l) = padL k l := by
  simp only [padL, List.length_cons]
  have : k - l.length = (k - (l.length + 1)) + 1 := by omega
  rw [this, List.replicate_succ']
  simp
theorem dig_zero : dig 0 = 48 := rfl
theorem pd_zero : ∀ k, pd k 0 = List.replicate k 48
  | 0 => rfl
  | k + 1 => by rw [pd, Nat.zero_div, pd_zero k, List.replicate_succ', dig_zero]
theorem padL_dec : ∀ (k u : Nat), u < 10 ^ (k + 1) → padL (k + 1) (Lib.decDigits u) = pd (k + 1) u
  | 0, u, h => by
    rw [dec_small (by omega), padL_ge (by simp)]; rfl
  | k + 1, u, h => by
    by_cases h1 : u < 10
    · rw [dec_small h1, pd, show u / 10 = 0 by omega, pd_zero]
      simp [padL]
    · rw [dec_big (by omega), padL_snoc, padL_dec k (u / 10) (by rw [Nat.pow_succ] at h; omega)]; rfl
theorem dec_pd {u : Nat} (h : u < 10) : Lib.decDigits u = pd 1 u := by rw [dec_small h]; rfl
theorem dig_congr {a b : Nat} (h : a % 10 = b % 10) : dig a = dig b := by rw [dig, dig, h]
theorem pd_1 (a : Nat) : pd 1 a = [dig a] := rfl
theorem pd_2 (a : Nat) : pd 2 a = [dig (a / 10), dig a] := rfl
theorem pd_3 (a : Nat) : pd 3 a = [dig (a / 10 / 10), dig (a / 10), dig a] := rfl
theorem pd_4 (a : Nat) : pd 4 a = [dig (a / 10 / 10 / 10), dig (a / 10 / 10), dig (a / 10), dig a] := rfl
theorem two_pd {u : Nat} (h : u < 100) : Lib.decDigits (u / 10) ++ Lib.decDigits (u % 10) = pd 2 u := by
  rw [dec_small (by omega), dec_small (by omega), pd_2]
  simp only [List.cons_append, List.nil_append]
  rw [dig_congr (a := u % 10) (b := u) (by omega)]
theorem four_pd (u : Nat) : pd 2 (u / 100 % 100) ++ pd 2 (u % 100) = pd 4 u := by
  simp only [pd_2, pd_4, List.cons_append, List.nil_append]
  rw [dig_congr (a := u / 100 % 100 / 10) (b := u / 10 / 10 / 10) (by omega), dig_congr (a := u / 100 % 100) (b := u / 10 / 10) (by omega), dig_congr (a := u % 100 / 10) (b := u / 10) (by omega), dig_congr (a := u % 100) (b := u) (by omega)]
end Go.Proofs.YtdplmbndafmlgaaDoor
