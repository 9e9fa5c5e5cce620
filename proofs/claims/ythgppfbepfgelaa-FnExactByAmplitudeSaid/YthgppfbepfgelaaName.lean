/-
  Contracts of the two functions that say whether a text is a name.
-/
import Derived.Test.YthgppfbepfgelaaNum
namespace Go.Proofs.Ythgppfbepfgelaa
open Go.RowKit Pl
set_option linter.unusedVariables false
set_option linter.unusedSimpArgs false
/-- Byte i of a text, 0 behind its end. -/
def byteAt (s : ByteArray) (i : Nat) : Int := if h : i < s.size then ((s[i]'h).toNat : Int) else 0
theorem byteAt_eq {s : ByteArray} {i : Nat} (h : i < s.size) : byteAt s i = ((s[i]'h).toNat : Int) := by unfold byteAt; rw [dif_pos h]
/-- May byte c stand at place i of a name? -/
def okAt (i : Nat) (c : Int) : Bool := inB c 97 122 || (decide (0 < i) && (inB c 48 57 || decide (c = 45)))
def nameB (s : ByteArray) : Bool := decide (1 ≤ s.size) && decide (s.size ≤ 12) && (List.range s.size).all fun i => okAt i (byteAt s i)
theorem okAt_cases (n : Nat) : (0 ≤ (n : Int) ∧ (n : Int) ≤ 44 ∧ decide ((n : Int) ≤ 122) = true ∧ decide ((n : Int) ≤ 57) = true ∧ ((n : Int) == 45) = false ∧ decide (97 ≤ (n : Int)) = false ∧ decide (48 ≤ (n : Int)) = false) ∨
    (45 ≤ (n : Int) ∧ (n : Int) ≤ 45 ∧ decide ((n : Int) ≤ 122) = true ∧ decide ((n : Int) ≤ 57) = true ∧ ((n : Int) == 45) = true ∧ decide (97 ≤ (n : Int)) = false ∧ decide (48 ≤ (n : Int)) = false) ∨
    (46 ≤ (n : Int) ∧ (n : Int) ≤ 47 ∧ decide ((n : Int) ≤ 122) = true ∧ decide ((n : Int) ≤ 57) = true ∧ ((n : Int) == 45) = false ∧ decide (97 ≤ (n : Int)) = false ∧ decide (48 ≤ (n : Int)) = false) ∨
    (48 ≤ (n : Int) ∧ (n : Int) ≤ 57 ∧ decide ((n : Int) ≤ 122) = true ∧ decide ((n : Int) ≤ 57) = true ∧ ((n : Int) == 45) = false ∧ decide (97 ≤ (n : Int)) = false ∧ decide (48 ≤ (n : Int)) = true) ∨
    (58 ≤ (n : Int) ∧ (n : Int) ≤ 96 ∧ decide ((n : Int) ≤ 122) = true ∧ decide ((n : Int) ≤ 57) = false ∧ ((n : Int) == 45) = false ∧ decide (97 ≤ (n : Int)) = false ∧ decide (48 ≤ (n : Int)) = true) ∨
    (97 ≤ (n : Int) ∧ (n : Int) ≤ 122 ∧ decide ((n : Int) ≤ 122) = true ∧ decide ((n : Int) ≤ 57) = false ∧ ((n : Int) == 45) = false ∧ decide (97 ≤ (n : Int)) = true ∧ decide (48 ≤ (n : Int)) = true) ∨
    (123 ≤ (n : Int) ∧ (n : Int) ≤ n ∧ decide ((n : Int) ≤ 122) = false ∧ decide ((n : Int) ≤ 57) = false ∧ ((n : Int) == 45) = false ∧ decide (97 ≤ (n : Int)) = true ∧ decide (48 ≤ (n : Int)) = true) := by
  have h : (n : Int) ≤ 44 ∨ (45 ≤ (n : Int) ∧ (n : Int) ≤ 45) ∨ (46 ≤ (n : Int) ∧ (n : Int) ≤ 47) ∨ (48 ≤ (n : Int) ∧ (n : Int) ≤ 57) ∨ (58 ≤ (n : Int) ∧ (n : Int) ≤ 96) ∨ (97 ≤ (n : Int) ∧ (n : Int) ≤ 122) ∨ 123 ≤ (n : Int) := by omega
  rcases h with h | h | h | h | h | h | h
  · left; refine ⟨by omega, by omega, ?_, ?_, ?_, ?_, ?_⟩ <;> simp <;> omega
  · right; left; refine ⟨by omega, by omega, ?_, ?_, ?_, ?_, ?_⟩ <;> simp <;> omega
  · right; right; left; refine ⟨by omega, by omega, ?_, ?_, ?_, ?_, ?_⟩ <;> simp <;> omega
  · right; right; right; left; refine ⟨by omega, by omega, ?_, ?_, ?_, ?_, ?_⟩ <;> simp <;> omega
  · right; right; right; right; left; refine ⟨by omega, by omega, ?_, ?_, ?_, ?_, ?_⟩ <;> simp <;> omega
  · right; right; right; right; right; left; refine ⟨by omega, by omega, ?_, ?_, ?_, ?_, ?_⟩ <;> simp <;> omega
  · right; right; right; right; right; right; refine ⟨by omega, by omega, ?_, ?_, ?_, ?_, ?_⟩ <;> simp <;> omega
theorem okAt_no {i : Nat} {c : Int} (h : c < 97 ∨ 122 < c) (k : i = 0 ∨ ((c < 48 ∨ 57 < c) ∧ c ≠ 45)) : okAt i c = false := by
  unfold okAt
  rw [inB_no h]
  rcases k with k | ⟨k, e⟩
  · subst k; simp
  · rw [inB_no k]; simp [e]
theorem okAt_low {i : Nat} {c : Int} (h : 97 ≤ c) (k : c ≤ 122) : okAt i c = true := by
  unfold okAt; rw [inB_mk h k]; rfl
theorem okAt_up {i : Nat} {c : Int} (h : 0 < i) (k : (48 ≤ c ∧ c ≤ 57) ∨ c = 45) : okAt i c = true := by
  unfold okAt
  rcases k with ⟨a, b⟩ | e
  · rw [inB_mk a b]; simp [h]
  · simp [h, e]
theorem name_bad {s : ByteArray} {k : Nat} (hk : k < s.size) (h : okAt k (byteAt s k) = false) : nameB s = false := by
  unfold nameB
  rw [Bool.and_eq_false_iff]
  right
  rw [List.all_eq_false]
  exact ⟨k, by simpa using hk, by simp [h]⟩
theorem name_good {s : ByteArray} (h1 : 1 ≤ s.size) (h2 : s.size ≤ 12) (h : ∀ i, i < s.size → okAt i (byteAt s i) = true) : nameB s = true := by
  unfold nameB
  simp only [Bool.and_eq_true, List.all_eq_true, decide_eq_true_eq]
  exact ⟨⟨h1, h2⟩, fun i hi => h i (by simpa using hi)⟩
theorem name_short {s : ByteArray} (h : s.size < 1 ∨ 12 < s.size) : nameB s = false := by
  unfold nameB
  rcases h with h | h
  · have : ¬ 1 ≤ s.size := by omega
    simp [this]
  · have : ¬ s.size ≤ 12 := by omega
    simp [this]
theorem empty_of {s : ByteArray} (h : s.size < 1) : s = ⟨#[]⟩ := by
  obtain ⟨a⟩ := s
  have : a.size = 0 := by have e : ByteArray.size ⟨a⟩ = a.size := rfl; omega
  rw [Array.eq_empty_of_size_eq_zero this]
theorem nonempty_of {s : ByteArray} (h : 0 < s.size) : s.toList.isEmpty = false ∧ (s.toList == []) = false ∧ s.data.toList.isEmpty = false := by
  have h1 : s.toList = s.data.toList := ByteArray.toList_eq s
  have h2 : s.data.toList.length = s.size := rfl
  have h3 : s.data.toList ≠ [] := fun e => by rw [e] at h2; simp at h2; omega
  rw [h1]
  refine ⟨?_, ?_, ?_⟩ <;> simpa using h3
theorem name_size {s : ByteArray} (h : nameB s = true) : s.size ≤ 12 := by
  rcases Nat.lt_or_ge 12 s.size with h1 | h1
  · rw [name_short (.inr h1)] at h; cases h
  · exact h1
theorem l01Small_any (n : Int) (w : World) : Calls Try.prog 38 #[.int .u8 n] w fun e w' => e = .returned (.bool (inB n 97 122)) ∧ w = w' := by
  by_cases h1 : 97 ≤ n <;> by_cases h2 : n ≤ 122
  all_goals
    go_enter Try.func38, Try.ntmps38
    go_wp2
    go_ret
    exact ⟨ret_bool (by simp [inB, h1, h2]), rfl⟩
theorem l01Digit_any (n : Int) (w : World) : Calls Try.prog 39 #[.int .u8 n] w fun e w' => e = .returned (.bool (inB n 48 57)) ∧ w = w' := by
  by_cases h1 : 48 ≤ n <;> by_cases h2 : n ≤ 57
  all_goals
    go_enter Try.func39, Try.ntmps39
    go_wp2
    go_ret
    exact ⟨ret_bool (by simp [inB, h1, h2]), rfl⟩
set_option maxHeartbeats 2000000 in
theorem impl_IsName_any (s : ByteArray) (w : World) (hs : s.size ≤ maxLen) : Calls Try.prog 35 #[.string s] w fun e w' => e = .returned (.bool (nameB s)) ∧ w = w' := by
  unfold maxLen at hs
  by_cases h1 : s.size < 1
  · go_enter Try.func35, Try.ntmps35
    go_wp2
    go_ret
    exact ⟨ret_bool (name_short (.inl h1)).symm, rfl⟩
  by_cases h2 : 12 < s.size
  · go_enter Try.func35, Try.ntmps35
    go_wp2
    go_ret
    exact ⟨ret_bool (name_short (.inr h2)).symm, rfl⟩
  go_enter Try.func35, Try.ntmps35
  go_wp2
  go_loop [16] (fun i => ∃ k : Nat, k ≤ s.size ∧ i = .int .i64 k ∧ Hid (∀ j, j < k → okAt j (byteAt s j) = true)) (fun i => s.size - (intOf i).toNat)
  case atStart => exact ⟨0, by omega, rfl, fun j hj => absurd hj (by omega)⟩
  case round =>
    obtain ⟨k, hk, rfl, hok⟩ := hrel
    by_cases hlt : k < s.size
    · have hbad := fun h => name_bad (k := k) hlt h
      have hgo := fun (h : okAt k (byteAt s k) = true) => (fun (j : Nat) (hj : j < k + 1) => (show okAt j (byteAt s j) = true from by
        rcases Nat.lt_or_ge j k with h0 | h0
        · exact hok.out j h0
        · have : j = k := by omega
          subst this; exact h))
      rw [byteAt_eq hlt] at hbad hgo
      have HB := hide hbad
      have HG := hide hgo
      clear hbad hgo
      obtain rfl | hk0 : k = 0 ∨ 0 < k := by omega
      · rcases okAt_cases (s[0]'hlt).toNat with ⟨ha, hb, g1, g2, g3, g4, g5⟩ | ⟨ha, hb, g1, g2, g3, g4, g5⟩ | ⟨ha, hb, g1, g2, g3, g4, g5⟩ | ⟨ha, hb, g1, g2, g3, g4, g5⟩ | ⟨ha, hb, g1, g2, g3, g4, g5⟩ | ⟨ha, hb, g1, g2, g3, g4, g5⟩ | ⟨ha, hb, g1, g2, g3, g4, g5⟩
        all_goals go_wp2
        all_goals first | (go_ret; exact ⟨ret_bool (HB.out (okAt_no (by omega) (by omega))).symm, rfl⟩) | skip
        all_goals
          go_round
          case rel => exact ⟨_, hlt, by go_num, HG.out (by first | exact okAt_low (by omega) (by omega) | exact okAt_up (by omega) (by omega))⟩
          case measure => simp [intOf]; omega
      · rcases okAt_cases (s[k]'hlt).toNat with ⟨ha, hb, g1, g2, g3, g4, g5⟩ | ⟨ha, hb, g1, g2, g3, g4, g5⟩ | ⟨ha, hb, g1, g2, g3, g4, g5⟩ | ⟨ha, hb, g1, g2, g3, g4, g5⟩ | ⟨ha, hb, g1, g2, g3, g4, g5⟩ | ⟨ha, hb, g1, g2, g3, g4, g5⟩ | ⟨ha, hb, g1, g2, g3, g4, g5⟩
        all_goals go_wp2
        all_goals first | (go_ret; exact ⟨ret_bool (HB.out (okAt_no (by omega) (by omega))).symm, rfl⟩) | skip
        all_goals
          go_round
          case rel => exact ⟨_, hlt, by go_num, HG.out (by first | exact okAt_low (by omega) (by omega) | exact okAt_up (by omega) (by omega))⟩
          case measure => simp [intOf]; omega
    · obtain rfl : k = s.size := by omega
      go_wp2
      go_ret
      exact ⟨ret_bool (name_good (by omega) (by omega) hok.out).symm, rfl⟩
set_option maxHeartbeats 2000000 in
theorem spec_IsName_any (s : ByteArray) (w : World) (hs : s.size ≤ maxLen) : Calls Try.prog 30 #[.string s] w fun e w' => e = .returned (.bool (nameB s)) ∧ w = w' := by
  unfold maxLen at hs
  by_cases h1 : s.size < 1
  · obtain rfl := empty_of h1
    go_enter Try.func30, Try.ntmps30
    go_wp2
    go_ret
    exact ⟨ret_bool (name_short (.inl (by decide))).symm, rfl⟩
  obtain ⟨n1, n2, n3⟩ := nonempty_of (show 0 < s.size by omega)
  by_cases h2 : 12 < s.size
  · go_enter Try.func30, Try.ntmps30
    go_wp2
    go_ret
    exact ⟨ret_bool (name_short (.inr h2)).symm, rfl⟩
  have h0 : 0 < s.size := by omega
  cases hc : inB ((s[0]'h0).toNat : Int) 97 122
  · go_enter Try.func30, Try.ntmps30
    go_wp2_with (go_at_call 38; refine (l01Small_any _ _).mono ?_; rintro e w' ⟨rfl, rfl⟩)
    go_ret
    refine ⟨ret_bool (name_bad h0 ?_).symm, rfl⟩
    rw [byteAt_eq h0]; unfold okAt; rw [hc]; simp
  obtain ⟨q1, q2⟩ := inB_true hc
  go_enter Try.func30, Try.ntmps30
  go_wp2_with (go_at_call 38; refine (l01Small_any _ _).mono ?_; rintro e w' ⟨rfl, rfl⟩)
  go_loop [3] (fun i => ∃ k : Nat, k ≤ s.size ∧ i = .int .i64 k ∧ Hid (∀ j, j < k → okAt j (byteAt s j) = true)) (fun i => s.size - (intOf i).toNat)
  case atStart => exact ⟨0, by omega, rfl, fun j hj => absurd hj (by omega)⟩
  case round =>
    obtain ⟨k, hk, rfl, hok⟩ := hrel
    by_cases hlt : k < s.size
    · have hbad := fun h => name_bad (k := k) hlt h
      have hgo := fun (h : okAt k (byteAt s k) = true) => (fun (j : Nat) (hj : j < k + 1) => (show okAt j (byteAt s j) = true from by
        rcases Nat.lt_or_ge j k with h0 | h0
        · exact hok.out j h0
        · have : j = k := by omega
          subst this; exact h))
      rw [byteAt_eq hlt] at hbad hgo
      have HB := hide hbad
      have HG := hide hgo
      clear hbad hgo
      obtain rfl | hk0 : k = 0 ∨ 0 < k := by omega
      · go_wp2_with (first | (go_at_call 38; refine (l01Small_any _ _).mono ?_; rintro e w' ⟨rfl, rfl⟩) | (go_at_call 39; refine (l01Digit_any _ _).mono ?_; rintro e w' ⟨rfl, rfl⟩))
        go_round
        case rel => exact ⟨_, hlt, by go_num, HG.out (okAt_low q1 q2)⟩
        case measure => simp [intOf]; omega
      · clear q1 q2 hc
        rcases okAt_cases (s[k]'hlt).toNat with ⟨ha, hb, g1, g2, g3, g4, g5⟩ | ⟨ha, hb, g1, g2, g3, g4, g5⟩ | ⟨ha, hb, g1, g2, g3, g4, g5⟩ | ⟨ha, hb, g1, g2, g3, g4, g5⟩ | ⟨ha, hb, g1, g2, g3, g4, g5⟩ | ⟨ha, hb, g1, g2, g3, g4, g5⟩ | ⟨ha, hb, g1, g2, g3, g4, g5⟩
        all_goals have t1 : inB ((s[k]'hlt).toNat : Int) 97 122 = (decide (97 ≤ ((s[k]'hlt).toNat : Int)) && decide (((s[k]'hlt).toNat : Int) ≤ 122)) := rfl
        all_goals have t2 : inB ((s[k]'hlt).toNat : Int) 48 57 = (decide (48 ≤ ((s[k]'hlt).toNat : Int)) && decide (((s[k]'hlt).toNat : Int) ≤ 57)) := rfl
        all_goals rw [g4, g1] at t1
        all_goals rw [g5, g2] at t2
        all_goals go_wp2_with (first | (go_at_call 38; refine (l01Small_any _ _).mono ?_; rintro e w' ⟨rfl, rfl⟩) | (go_at_call 39; refine (l01Digit_any _ _).mono ?_; rintro e w' ⟨rfl, rfl⟩))
        all_goals first | (go_ret; exact ⟨ret_bool (HB.out (okAt_no (by omega) (by omega))).symm, rfl⟩) | skip
        all_goals
          go_round
          case rel => exact ⟨_, hlt, by go_num, HG.out (by first | exact okAt_low (by omega) (by omega) | exact okAt_up (by omega) (by omega))⟩
          case measure => simp [intOf]; omega
    · obtain rfl : k = s.size := by omega
      clear q1 q2 hc
      go_wp2
      go_ret
      exact ⟨ret_bool (name_good (by omega) (by omega) hok.out).symm, rfl⟩
theorem name_end : True := trivial
end Go.Proofs.Ythgppfbepfgelaa
