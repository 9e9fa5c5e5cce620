/-
  Plain values on lists: a list that is in order, of elements that are all right. No program.
-/
import Derived.Test.YthgppfbepfgelaaPl
namespace Go.Proofs.Ythgppfbepfgelaa.Pl
set_option linter.unusedVariables false
set_option linter.unusedSimpArgs false
section
variable {α : Type}
/-- Element i is all right and stands behind the one before it. -/
def stepOk (ok : α → Bool) (lt : α → α → Bool) (l : List α) : Nat → Bool
  | 0 => match l[0]? with | some x => ok x | none => true
  | j + 1 => match l[j]?, l[j + 1]? with | some y, some x => ok x && lt y x | _, _ => true
def validB (ok : α → Bool) (lt : α → α → Bool) (most : Nat) (l : List α) : Bool := decide (l.length ≤ most) && (List.range l.length).all (stepOk ok lt l)
variable {ok : α → Bool} {lt : α → α → Bool} {most : Nat} {l : List α}
theorem valid_bad {k : Nat} (hk : k < l.length) (h : stepOk ok lt l k = false) : validB ok lt most l = false := by
  unfold validB
  rw [Bool.and_eq_false_iff]
  right
  rw [List.all_eq_false]
  exact ⟨k, by simpa using hk, by simp [h]⟩
theorem valid_long (h : most < l.length) : validB ok lt most l = false := by
  have : ¬ l.length ≤ most := by omega
  simp [validB, this]
theorem valid_good (h : ∀ i, i < l.length → stepOk ok lt l i = true) : validB ok lt most l = decide (l.length ≤ most) := by
  unfold validB
  have : (List.range l.length).all (stepOk ok lt l) = true := by
    rw [List.all_eq_true]
    exact fun i hi => h i (by simpa using hi)
  rw [this, Bool.and_true]
theorem step_zero (h : 0 < l.length) : stepOk ok lt l 0 = ok (l[0]'h) := by
  unfold stepOk; rw [List.getElem?_eq_getElem h]
theorem step_succ {j : Nat} (h : j + 1 < l.length) : stepOk ok lt l (j + 1) = (ok (l[j + 1]'h) && lt (l[j]'(by omega)) (l[j + 1]'h)) := by
  simp only [stepOk]; rw [List.getElem?_eq_getElem h, List.getElem?_eq_getElem (show j < l.length by omega)]
theorem step_bad {k : Nat} (h : k < l.length) (h0 : ok (l[k]'h) = false) : stepOk ok lt l k = false := by
  cases k with
  | zero => rw [step_zero h, h0]
  | succ j => rw [step_succ h, h0]; rfl
theorem valid_all (h : validB ok lt most l = true) : l.length ≤ most ∧ ∀ i (hi : i < l.length), ok (l[i]'hi) = true := by
  unfold validB at h
  rw [Bool.and_eq_true, List.all_eq_true] at h
  refine ⟨by simpa using h.1, fun i hi => ?_⟩
  have h2 := h.2 i (by simpa using hi)
  cases i with
  | zero => rw [step_zero hi] at h2; exact h2
  | succ j => rw [step_succ hi, Bool.and_eq_true] at h2; exact h2.1
theorem steps_next {k : Nat} (h : ∀ j, j < k → stepOk ok lt l j = true) (hk : stepOk ok lt l k = true) : ∀ j, j < k + 1 → stepOk ok lt l j = true := by
  intro j hj
  rcases Nat.lt_or_ge j k with h0 | h0
  · exact h j h0
  · have : j = k := by omega
    subst this; exact hk
end
end Go.Proofs.Ythgppfbepfgelaa.Pl
