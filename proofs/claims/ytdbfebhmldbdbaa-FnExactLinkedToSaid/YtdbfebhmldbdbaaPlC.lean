/-
  Plain values on lists of integers: bounds, sums, least and greatest, neighbours. No program.
-/
import Derived.Test.YtdbfebhmldbdbaaPlA
namespace Go.Proofs.Ytdbfebhmldbdbaa.Pl
set_option linter.unusedVariables false
set_option linter.unusedSimpArgs false
/-- The index of the first element that is wanted, or -1. -/
def idxBy {α : Type} (p : α → Bool) : List α → Int
  | [] => -1
  | x :: l => if p x = true then 0 else (if idxBy p l < 0 then -1 else idxBy p l + 1)
theorem idxBy_ge {α : Type} (p : α → Bool) : ∀ l : List α, -1 ≤ idxBy p l
  | [] => by simp [idxBy]
  | x :: l => by have := idxBy_ge p l; unfold idxBy; split <;> (try split) <;> omega
theorem idxBy_none {α : Type} {p : α → Bool} : ∀ {l : List α}, (∀ i (h : i < l.length), p (l[i]'h) = false) → idxBy p l = -1
  | [], _ => rfl
  | x :: l, h => by
    have h0 := h 0 (by simp)
    simp at h0
    have := idxBy_none (p := p) (l := l) fun i hi => by have := h (i + 1) (by simp; omega); simpa using this
    unfold idxBy; rw [if_neg (by simp [h0]), this]; rfl
theorem idxBy_hit {α : Type} {p : α → Bool} : ∀ {l : List α} {k : Nat} (hk : k < l.length), (∀ i (h : i < k), p (l[i]'(by omega)) = false) → p (l[k]'hk) = true → idxBy p l = k
  | x :: l, 0, _, _, h => by simp at h; unfold idxBy; rw [if_pos h]; rfl
  | x :: l, k + 1, hk, ha, h => by
    have h0 := ha 0 (by omega)
    simp at h0
    have := idxBy_hit (p := p) (l := l) (k := k) (by simpa using hk) (fun i hi => by have := ha (i + 1) (by omega); simpa using this) (by simpa using h)
    unfold idxBy; rw [if_neg (by simp [h0]), this, if_neg (by omega)]; simp
/-- Are all numbers within bounds? -/
def allI (lo hi : Int) (l : List Int) : Bool := l.all fun n => inB n lo hi
theorem allI_at {lo hi : Int} {l : List Int} (h : allI lo hi l = true) {i : Nat} (hi' : i < l.length) : inB (l[i]'hi') lo hi = true := by
  unfold allI at h; rw [List.all_eq_true] at h; exact h _ (List.getElem_mem _)
theorem allI_idx (lo hi : Int) (l : List Int) : decide (0 ≤ idxBy (fun n => !inB n lo hi) l) = !allI lo hi l := by
  induction l with
  | nil => simp [idxBy, allI]
  | cons x l ih =>
    have hge := idxBy_ge (fun n => !inB n lo hi) l
    unfold idxBy
    cases hx : inB x lo hi
    · simp [allI, hx]
    · have e : allI lo hi (x :: l) = allI lo hi l := by simp [allI, hx]
      rw [e, ← ih, if_neg (by simp)]
      by_cases h : idxBy (fun n => !inB n lo hi) l < 0
      · rw [if_pos h]; simp; omega
      · rw [if_neg h]; simp; omega
def magsB (l : List Int) : Bool := decide (l.length ≤ 100) && allI (-2000) 20000 l
def listCode (l : List Int) : Int := if magsB l = true then 0 else 2
def someCode (l : List Int) : Int := if magsB l = true then (if l.length = 0 then 3 else 0) else 2
theorem magsB_true {l : List Int} (h : magsB l = true) : l.length ≤ 100 ∧ allI (-2000) 20000 l = true := by
  simpa [magsB] using h
/-- The sum of the first numbers. -/
def sumI : List Int → Int
  | [] => 0
  | x :: l => x + sumI l
theorem sumI_snoc (l : List Int) (x : Int) : sumI (l ++ [x]) = sumI l + x := by
  induction l with
  | nil => simp [sumI]
  | cons y l ih => simp only [List.cons_append, sumI, ih]; omega
theorem take_snoc {l : List Int} {k : Nat} (h : k < l.length) : l.take (k + 1) = l.take k ++ [l[k]] := by
  rw [List.take_succ_eq_append_getElem h]
theorem sum_next {l : List Int} {k : Nat} (h : k < l.length) : sumI (l.take (k + 1)) = sumI (l.take k) + l[k] := by
  rw [take_snoc h, sumI_snoc]
theorem sumI_bd : ∀ l : List Int, allI (-2000) 20000 l = true → -2000 * (l.length : Int) ≤ sumI l ∧ sumI l ≤ 20000 * (l.length : Int)
  | [], _ => by simp [sumI]
  | x :: l, h => by
    simp only [allI, List.all_cons, Bool.and_eq_true] at h
    have h1 := inB_true h.1
    have h2 := sumI_bd l h.2
    simp only [sumI, List.length_cons]; omega
theorem allI_take {lo hi : Int} {l : List Int} (k : Nat) (h : allI lo hi l = true) : allI lo hi (l.take k) = true := by
  unfold allI at *
  rw [List.all_eq_true] at *
  exact fun x hx => h x (List.mem_of_mem_take hx)
theorem sum_take_bd {l : List Int} (h : magsB l = true) (k : Nat) : -200000 ≤ sumI (l.take k) ∧ sumI (l.take k) ≤ 2000000 := by
  obtain ⟨h1, h2⟩ := magsB_true h
  have h3 := sumI_bd _ (allI_take k h2)
  have h4 : (l.take k).length ≤ 100 := by rw [List.length_take]; omega
  omega
def meanOf (l : List Int) : Int × Int := if someCode l = 0 then (near (sumI l) l.length, 0) else (0, someCode l)
/-- Least and greatest of the first k + 1 numbers. -/
def minTo (l : List Int) : Nat → Int
  | 0 => l.getD 0 0
  | k + 1 => minI (minTo l k) (l.getD (k + 1) 0)
def maxTo (l : List Int) : Nat → Int
  | 0 => l.getD 0 0
  | k + 1 => maxI (maxTo l k) (l.getD (k + 1) 0)
def rangeOf (l : List Int) : Int × Int × Int := if someCode l = 0 then (minTo l (l.length - 1), maxTo l (l.length - 1), 0) else (0, 0, someCode l)
/-- The places of the numbers next to m, below (or at) and above, among the first k; -1: none. -/
def lowTo (l : List Int) (m : Int) : Nat → Int
  | 0 => -1
  | k + 1 => if l.getD k 0 ≤ m ∧ (lowTo l m k < 0 ∨ l.getD (lowTo l m k).toNat 0 < l.getD k 0) then (k : Int) else lowTo l m k
def highTo (l : List Int) (m : Int) : Nat → Int
  | 0 => -1
  | k + 1 => if m < l.getD k 0 ∧ (highTo l m k < 0 ∨ l.getD k 0 < l.getD (highTo l m k).toNat 0) then (k : Int) else highTo l m k
theorem lowTo_bd (l : List Int) (m : Int) (k : Nat) : -1 ≤ lowTo l m k ∧ lowTo l m k < k := by
  induction k with
  | zero => simp [lowTo]
  | succ k ih => unfold lowTo; split <;> omega
theorem highTo_bd (l : List Int) (m : Int) (k : Nat) : -1 ≤ highTo l m k ∧ highTo l m k < k := by
  induction k with
  | zero => simp [highTo]
  | succ k ih => unfold highTo; split <;> omega
def pairOf (l : List Int) (m : Int) : Int × Int × Int :=
  if magsB l = true ∧ inB m (-2000) 20000 = true then
    (if lowTo l m l.length < 0 ∨ highTo l m l.length < 0 then (0, 0, 3) else (lowTo l m l.length, highTo l m l.length, 0))
  else (0, 0, 2)
end Go.Proofs.Ytdbfebhmldbdbaa.Pl
