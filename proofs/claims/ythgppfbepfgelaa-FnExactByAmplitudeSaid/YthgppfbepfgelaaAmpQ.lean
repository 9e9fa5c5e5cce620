/-
  Plain words: the numbers of the stars by their keys, put in one after another; there is one such order.
-/
import Derived.Test.YthgppfbepfgelaaAmpP
namespace Go.Proofs.Ythgppfbepfgelaa
open Go.Sort
set_option linter.unusedVariables false
set_option linter.unusedSimpArgs false
/-- The place of i, from k downwards. -/
def kp (key : Int → Int) (out : List Int) (i : Int) : Nat → Nat
  | 0 => 0
  | k + 1 => if key i < key (out.getD k 0) then kp key out i k else k + 1
theorem kp_le (key : Int → Int) (out : List Int) (i : Int) : ∀ k, kp key out i k ≤ k
  | 0 => Nat.le_refl _
  | k + 1 => by
    rw [kp]
    split
    · have := kp_le key out i k; omega
    · exact Nat.le_refl _
theorem kp_hi (key : Int → Int) (out : List Int) (i : Int) : ∀ k j, kp key out i k ≤ j → j < k → key i < key (out.getD j 0)
  | 0, j, _, h => by omega
  | k + 1, j, h1, h2 => by
    rw [kp] at h1
    split at h1
    · rename_i h
      by_cases e : j = k
      · rw [e]; exact h
      · exact kp_hi key out i k j h1 (by omega)
    · omega
theorem kp_lo (key : Int → Int) (out : List Int) (i : Int) : ∀ k, 0 < kp key out i k → ¬ key i < key (out.getD (kp key out i k - 1) 0)
  | 0, h => by simp [kp] at h
  | k + 1, h => by
    rw [kp] at h ⊢
    split at h
    · rename_i h1
      rw [if_pos h1]
      exact kp_lo key out i k h
    · rename_i h1
      rw [if_neg h1]
      simpa using h1
def insA (key : Int → Int) (out : List Int) (i : Int) : List Int := out.take (kp key out i out.length) ++ [i] ++ out.drop (kp key out i out.length)
def ampL (key : Int → Int) : Nat → List Int
  | 0 => []
  | n + 1 => insA key (ampL key n) n
theorem insA_perm (key : Int → Int) (out : List Int) (i : Int) : (insA key out i).Perm (out ++ [i]) := by
  unfold insA
  have h := List.take_append_drop (kp key out i out.length) out
  have h1 : (out.take (kp key out i out.length) ++ [i] ++ out.drop (kp key out i out.length)).Perm (out.take (kp key out i out.length) ++ out.drop (kp key out i out.length) ++ [i]) := by
    rw [List.append_assoc, List.append_assoc]
    exact List.Perm.append_left _ List.perm_append_comm
  rw [h] at h1
  exact h1
theorem ampL_perm (key : Int → Int) : ∀ n, (ampL key n).Perm ((List.range n).map fun p : Nat => (p : Int))
  | 0 => List.Perm.nil
  | n + 1 => by
    rw [ampL, List.range_succ, List.map_append]
    exact (insA_perm _ _ _).trans (List.Perm.append_right _ (ampL_perm key n))
theorem ampL_len (key : Int → Int) (n : Nat) : (ampL key n).length = n := by rw [(ampL_perm key n).length_eq]; simp
theorem ampL_lt (key : Int → Int) (n : Nat) : ∀ x ∈ ampL key n, 0 ≤ x ∧ x < (n : Int) := fun x hx => by
  have := (ampL_perm key n).subset hx
  obtain ⟨p, hp, rfl⟩ := List.mem_map.1 this
  have := List.mem_range.1 hp
  omega
theorem ampL_sorted (key : Int → Int) : ∀ n, (ampL key n).Pairwise (fun x y => alt key y x = false)
  | 0 => List.Pairwise.nil
  | n + 1 => by
    have ih := ampL_sorted key n
    have hlt := ampL_lt key n
    rw [ampL, insA]
    generalize hk : kp key (ampL key n) n (ampL key n).length = k at *
    have hkle : k ≤ (ampL key n).length := by rw [← hk]; exact kp_le _ _ _ _
    have hhi : ∀ j, k ≤ j → j < (ampL key n).length → key n < key ((ampL key n).getD j 0) := fun j h1 h2 => kp_hi key _ _ _ j (by rw [hk]; exact h1) h2
    have hlo : 0 < k → ¬ key n < key ((ampL key n).getD (k - 1) 0) := fun h => by
      have := kp_lo key (ampL key n) n (ampL key n).length (by rw [hk]; exact h)
      rw [hk] at this
      exact this
    generalize hL : ampL key n = L at *
    have gd : ∀ j (h : j < L.length), L.getD j 0 = L[j] := fun j h => by rw [List.getD_eq_getElem?_getD, List.getElem?_eq_getElem h]; rfl
    have pl : ∀ x ∈ L.take k, alt key n x = false := fun x hx => by
      obtain ⟨j, hj, rfl⟩ := List.getElem_of_mem hx
      have hjk : j < k := by simp at hj; omega
      rw [List.getElem_take]
      have h1 := hlo (by omega)
      rw [gd _ (by omega)] at h1
      have h2 : alt key L[k - 1] L[j] = false ∨ j = k - 1 := by
        by_cases e : j = k - 1
        · exact Or.inr e
        · exact Or.inl (List.pairwise_iff_getElem.1 ih j (k - 1) (by omega) (by omega) (by omega))
      have h3 := hlt L[j] (List.getElem_mem _)
      rcases h2 with h2 | h2
      · simp only [alt, decide_eq_false_iff_not] at h2 ⊢; omega
      · subst h2
        simp only [alt, decide_eq_false_iff_not]; omega
    have pr : ∀ x ∈ L.drop k, alt key x n = false := fun x hx => by
      obtain ⟨j, hj, rfl⟩ := List.getElem_of_mem hx
      rw [List.getElem_drop]
      have hj2 : k + j < L.length := by simp at hj; omega
      have h1 := hhi (k + j) (by omega) hj2
      rw [gd _ hj2] at h1
      simp only [alt, decide_eq_false_iff_not]; omega
    rw [List.pairwise_append, List.pairwise_append]
    refine ⟨⟨ih.sublist (List.take_sublist _ _), List.pairwise_singleton _ _, fun x hx y hy => ?_⟩, ih.sublist (List.drop_sublist _ _), fun x hx y hy => ?_⟩
    · simp only [List.mem_singleton] at hy
      subst hy
      exact pl x hx
    · rcases List.mem_append.1 hx with hx | hx
      · have e : L = L.take k ++ L.drop k := (List.take_append_drop k L).symm
        rw [e, List.pairwise_append] at ih
        exact ih.2.2 x hx y hy
      · simp only [List.mem_singleton] at hx
        subst hx
        exact pr y hy
/-- There is one such order. -/
theorem amp_unique (key : Int → Int) {n : Nat} {D0 D : Array Int} (h0 : D0.toList = (List.range n).map fun p : Nat => (p : Int)) (hp : PermIn 0 n D0 D) (hs : SortedIn (alt key) 0 n D) : D.toList = ampL key n := by
  have hz : D0.size = n := by rw [← Array.length_toList, h0]; simp
  obtain ⟨h1, _, h3⟩ := hp
  have e0 : D0.extract 0 n = D0 := by rw [← hz]; exact Array.extract_size
  have e1 : D.extract 0 n = D := by rw [← hz, ← h1]; exact Array.extract_size
  rw [e0, e1, h0] at h3
  refine List.Perm.eq_of_pairwise (le := fun x y => alt key y x = false) ?_ ?_ (ampL_sorted key n) (h3.trans (ampL_perm key n).symm)
  · intro a b _ _ x1 x2
    exact alt_anti key a b x2 x1
  · rw [List.pairwise_iff_getElem]
    intro i j hi hj hij
    have hi' : i < D.size := by simpa using hi
    have hj' : j < D.size := by simpa using hj
    have := hs i j (Nat.zero_le _) hij (by omega)
    rw [getElem!_pos D j hj', getElem!_pos D i hi'] at this
    simpa using this
theorem ampQ_end : True := trivial
end Go.Proofs.Ythgppfbepfgelaa
