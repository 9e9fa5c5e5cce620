/-
  Contracts of the functions on lists of integers: bounds, codes, sums.
-/
import Derived.Test.YtdbfebhmldbdbaaNum
import Derived.Test.YtdbfebhmldbdbaaRec
import Derived.Test.YtdbfebhmldbdbaaPlC
namespace Go.Proofs.Ytdbfebhmldbdbaa
open Go.RowKit Pl
set_option linter.unusedVariables false
set_option linter.unusedSimpArgs false
theorem Rd.int {w : World} {B : Nat} {A : Option Addr} {l : List Int} (h : Rd w B 1 A l.length (ints l)) {i : Nat} (hi : i < l.length) :
    ∃ g off, A = some ⟨g, off, none⟩ ∧ g < B ∧ w.cell? ⟨g, off + i, none⟩ = some (.int .i64 l[i]) := by
  rw [← ones] at h
  obtain ⟨g, off, hA, hg, hc⟩ := h.elem one_len hi
  exact ⟨g, off, hA, hg, by have := hc 0 _ rfl; simpa using this⟩
theorem allIn1_any (n lo hi : Int) (g1 g2 : Nat) (w : World) (h1 : w.cell? ⟨g1, 0, none⟩ = some (.int .i64 lo)) (h2 : w.cell? ⟨g2, 0, none⟩ = some (.int .i64 hi)) :
    Calls Try.prog 59 #[.int .i64 n, .pointer (some ⟨g1, 0, none⟩), .pointer (some ⟨g2, 0, none⟩)] w fun e w' => e = .returned (.bool (!inB n lo hi)) ∧ w = w' := by
  go_enter Try.func59, Try.ntmps59
  go_wp2_with (go_at_call 32; refine (in_any _ _ _ _).mono ?_; rintro e w' ⟨rfl, rfl⟩)
  go_ret
  exact ⟨rfl, rfl⟩
theorem IndexFunc_int_any (A : Option Addr) (c : Nat) (l : List Int) (lo hi : Int) (g1 g2 : Nat) (w : World) (hl : l.length ≤ 1048576) (hr : Rd w w.heap.size 1 A l.length (ints l)) (h1 : w.cell? ⟨g1, 0, none⟩ = some (.int .i64 lo)) (h2 : w.cell? ⟨g2, 0, none⟩ = some (.int .i64 hi)) :
    Calls Try.prog 63 #[.slice A l.length c, .func (.func 59) #[] #[.pointer (some ⟨g1, 0, none⟩), .pointer (some ⟨g2, 0, none⟩)]] w fun e w' => e = .returned (.int .i64 (idxBy (fun n => !inB n lo hi) l)) ∧ w = w' := by
  go_enter Try.func63, Try.ntmps63
  go_wp2
  go_loop [8] (fun i => ∃ k : Nat, k ≤ l.length ∧ i = .int .i64 k ∧ Hid (∀ j (h : j < k) (h' : j < l.length), inB (l[j]'h') lo hi = true)) (fun i => l.length - (intOf i).toNat)
  case atStart => exact ⟨0, by omega, rfl, fun j hj => absurd hj (by omega)⟩
  case round =>
    obtain ⟨k, hk, rfl, hs⟩ := hrel
    by_cases hlt : k < l.length
    · obtain ⟨g, off, rfl, hg, hc⟩ := hr.int hlt
      clear hr
      cases hb : inB l[k] lo hi
      · go_wp2_with (go_at_call 59; refine (allIn1_any _ lo hi g1 g2 _ (by assumption) (by assumption)).mono ?_; rintro e w' ⟨rfl, rfl⟩)
        go_ret
        exact ⟨ret_int (idxBy_hit hlt (fun i hi' => by simp [hs.out i hi' (by omega)]) (by simp [hb])).symm, rfl⟩
      · go_wp2_with (go_at_call 59; refine (allIn1_any _ lo hi g1 g2 _ (by assumption) (by assumption)).mono ?_; rintro e w' ⟨rfl, rfl⟩)
        go_round
        case rel =>
          refine ⟨k + 1, by omega, by go_num, fun j hj hj' => ?_⟩
          rcases Nat.lt_or_ge j k with h0 | h0
          · exact hs.out j h0 hj'
          · have : j = k := by omega
            subst this; exact hb
        case measure => simp [intOf]; omega
    · obtain rfl : k = l.length := by omega
      clear hr
      go_wp2
      go_ret
      exact ⟨ret_int (idxBy_none (fun i hi' => by simp [hs.out i hi' hi'])).symm, rfl⟩
theorem ContainsFunc_int_any (A : Option Addr) (c : Nat) (l : List Int) (lo hi : Int) (g1 g2 : Nat) (w : World) (hl : l.length ≤ 1048576) (hr : Rd w w.heap.size 1 A l.length (ints l)) (h1 : w.cell? ⟨g1, 0, none⟩ = some (.int .i64 lo)) (h2 : w.cell? ⟨g2, 0, none⟩ = some (.int .i64 hi)) :
    Calls Try.prog 58 #[.slice A l.length c, .func (.func 59) #[] #[.pointer (some ⟨g1, 0, none⟩), .pointer (some ⟨g2, 0, none⟩)]] w fun e w' => e = .returned (.bool (!allI lo hi l)) ∧ w = w' := by
  have HA := hide (allI_idx lo hi l)
  have HR := hide hr
  have H1 := hide h1
  have H2 := hide h2
  clear hr h1 h2
  go_enter Try.func58, Try.ntmps58
  go_wp2_with (go_at_call 63; refine (IndexFunc_int_any A c l lo hi g1 g2 _ hl HR.out H1.out H2.out).mono ?_; rintro e w' ⟨rfl, rfl⟩)
  go_ret
  exact ⟨ret_bool HA.out, rfl⟩
theorem allIn_any (A : Option Addr) (c : Nat) (l : List Int) (lo hi : Int) (w : World) (hl : l.length ≤ 1048576) (hr : Rd w w.heap.size 1 A l.length (ints l)) :
    Calls Try.prog 53 #[.slice A l.length c, .int .i64 lo, .int .i64 hi] w fun e w' => e = .returned (.bool (allI lo hi l)) ∧ Below w.heap.size w w' := by
  have HR := hide hr
  clear hr
  go_enter Try.func53, Try.ntmps53
  go_wp2_with fail
  refine (ContainsFunc_int_any A c l lo hi _ _ _ hl (((HR.out.alloc (Nat.le_refl _) _).alloc (by simp) _).more (by simp; omega)) (by simp [go_sem]) (by simp [go_sem])).mono ?_
  rintro e w' ⟨rfl, rfl⟩
  go_wp2
  go_ret
  exact ⟨ret_bool (by simp), (by repeat (first | exact Below.refl _ _ | assumption | refine Below.drew ?_ | refine below_drewN ?_ _ | refine Below.alloc ?_ (by first | omega | (simp; done) | (simp; omega)) _ | refine Below.setCell ?_ (by first | omega | (simp; done) | (simp; omega)) _ | refine Below.trans ?_ (Below.mono (by assumption) (by first | omega | (simp; done) | (simp; omega)))))⟩
theorem areMags_any (A : Option Addr) (c : Nat) (l : List Int) (w : World) (hl : l.length ≤ 1048576) (hr : Rd w w.heap.size 1 A l.length (ints l)) :
    Calls Try.prog 44 #[.slice A l.length c] w fun e w' => e = .returned (.bool (magsB l)) ∧ Below w.heap.size w w' := by
  have HR := hide hr
  clear hr
  by_cases h1 : l.length ≤ 100
  · go_enter Try.func44, Try.ntmps44
    go_wp2_with (go_at_call 53; refine (allIn_any A c l _ _ _ hl HR.out).mono ?_; rintro e w' ⟨rfl, hb⟩; obtain ⟨hcb, hfb⟩ := bcell hb; have hzb := hb.size; try simp at hzb; try (have hzl := Nat.lt_of_succ_le hzb); try (have hz0 : w.heap.size < w'.heap.size := by omega); try (have hz1 : w.heap.size + 1 < w'.heap.size := by omega); try (have hz2 : w.heap.size + 2 < w'.heap.size := by omega))
    go_ret
    exact ⟨ret_bool (by simp [magsB, h1]), (by repeat (first | exact Below.refl _ _ | assumption | refine Below.drew ?_ | refine below_drewN ?_ _ | refine Below.alloc ?_ (by first | omega | (simp; done) | (simp; omega)) _ | refine Below.setCell ?_ (by first | omega | (simp; done) | (simp; omega)) _ | refine Below.trans ?_ (Below.mono (by assumption) (by first | omega | (simp; done) | (simp; omega)))))⟩
  · go_enter Try.func44, Try.ntmps44
    go_wp2
    go_ret
    exact ⟨ret_bool (by simp [magsB, h1]), (by repeat (first | exact Below.refl _ _ | assumption | refine Below.drew ?_ | refine below_drewN ?_ _ | refine Below.alloc ?_ (by first | omega | (simp; done) | (simp; omega)) _ | refine Below.setCell ?_ (by first | omega | (simp; done) | (simp; omega)) _ | refine Below.trans ?_ (Below.mono (by assumption) (by first | omega | (simp; done) | (simp; omega)))))⟩
theorem someMags_any (A : Option Addr) (c : Nat) (l : List Int) (w : World) (hl : l.length ≤ 1048576) (hr : Rd w w.heap.size 1 A l.length (ints l)) :
    Calls Try.prog 25 #[.slice A l.length c] w fun e w' => e = .returned (.int .i64 (someCode l)) ∧ Below w.heap.size w w' := by
  have HR := hide hr
  clear hr
  cases h1 : magsB l
  · go_enter Try.func25, Try.ntmps25
    go_wp2_with (go_at_call 44; refine (areMags_any A c l _ hl HR.out).mono ?_; rintro e w' ⟨rfl, hb⟩; obtain ⟨hcb, hfb⟩ := bcell hb; have hzb := hb.size; try simp at hzb; try (have hzl := Nat.lt_of_succ_le hzb); try (have hz0 : w.heap.size < w'.heap.size := by omega); try (have hz1 : w.heap.size + 1 < w'.heap.size := by omega); try (have hz2 : w.heap.size + 2 < w'.heap.size := by omega))
    go_ret
    exact ⟨ret_int (by simp [someCode, h1]), (by repeat (first | exact Below.refl _ _ | assumption | refine Below.drew ?_ | refine below_drewN ?_ _ | refine Below.alloc ?_ (by first | omega | (simp; done) | (simp; omega)) _ | refine Below.setCell ?_ (by first | omega | (simp; done) | (simp; omega)) _ | refine Below.trans ?_ (Below.mono (by assumption) (by first | omega | (simp; done) | (simp; omega)))))⟩
  by_cases h2 : l.length = 0
  · have e0 : l = [] := List.eq_nil_of_length_eq_zero h2
    subst e0
    go_enter Try.func25, Try.ntmps25
    go_wp2_with (go_at_call 44; refine (areMags_any A c [] _ hl HR.out).mono ?_; rintro e w' ⟨rfl, hb⟩; obtain ⟨hcb, hfb⟩ := bcell hb; have hzb := hb.size; try simp at hzb; try (have hzl := Nat.lt_of_succ_le hzb); try (have hz0 : w.heap.size < w'.heap.size := by omega); try (have hz1 : w.heap.size + 1 < w'.heap.size := by omega); try (have hz2 : w.heap.size + 2 < w'.heap.size := by omega))
    go_ret
    exact ⟨ret_int (by simp [someCode, h1]), (by repeat (first | exact Below.refl _ _ | assumption | refine Below.drew ?_ | refine below_drewN ?_ _ | refine Below.alloc ?_ (by first | omega | (simp; done) | (simp; omega)) _ | refine Below.setCell ?_ (by first | omega | (simp; done) | (simp; omega)) _ | refine Below.trans ?_ (Below.mono (by assumption) (by first | omega | (simp; done) | (simp; omega)))))⟩
  · have e1 : ((l.length : Int) == 0) = false := by simp; intro h; exact h2 (by simp [h])
    go_enter Try.func25, Try.ntmps25
    go_wp2_with (go_at_call 44; refine (areMags_any A c l _ hl HR.out).mono ?_; rintro e w' ⟨rfl, hb⟩; obtain ⟨hcb, hfb⟩ := bcell hb; have hzb := hb.size; try simp at hzb; try (have hzl := Nat.lt_of_succ_le hzb); try (have hz0 : w.heap.size < w'.heap.size := by omega); try (have hz1 : w.heap.size + 1 < w'.heap.size := by omega); try (have hz2 : w.heap.size + 2 < w'.heap.size := by omega))
    go_ret
    exact ⟨ret_int (by simp [someCode, h1, h2]), (by repeat (first | exact Below.refl _ _ | assumption | refine Below.drew ?_ | refine below_drewN ?_ _ | refine Below.alloc ?_ (by first | omega | (simp; done) | (simp; omega)) _ | refine Below.setCell ?_ (by first | omega | (simp; done) | (simp; omega)) _ | refine Below.trans ?_ (Below.mono (by assumption) (by first | omega | (simp; done) | (simp; omega)))))⟩
theorem l02List_any (A : Option Addr) (c : Nat) (l : List Int) (w : World) (hl : l.length ≤ 1048576) (hr : Rd w w.heap.size 1 A l.length (ints l)) :
    Calls Try.prog 41 #[.slice A l.length c] w fun e w' => e = .returned (.int .i64 (listCode l)) ∧ w = w' := by
  go_enter Try.func41, Try.ntmps41
  go_wp2
  go_loop [3] (fun i => ∃ k : Nat, k ≤ l.length ∧ i = .int .i64 k ∧ Hid (∀ j (h : j < k) (h' : j < l.length), inB (l[j]'h') (-2000) 20000 = true)) (fun i => l.length - (intOf i).toNat)
  case atStart => exact ⟨0, by omega, rfl, fun j hj => absurd hj (by omega)⟩
  case round =>
    obtain ⟨k, hk, rfl, hs⟩ := hrel
    by_cases hlt : k < l.length
    · obtain ⟨g, off, rfl, hg, hc⟩ := hr.int hlt
      clear hr
      cases hb : inB l[k] (-2000) 20000
      · go_wp2_with (go_at_call 50; refine (spec_l02Mag_any _ _).mono ?_; rintro e w' ⟨rfl, rfl⟩)
        go_ret
        refine ⟨ret_int ?_, rfl⟩
        have : magsB l = false := by
          cases hm : magsB l
          · rfl
          · have := allI_at (magsB_true hm).2 hlt; rw [hb] at this; cases this
        simp [listCode, this]
      · go_wp2_with (go_at_call 50; refine (spec_l02Mag_any _ _).mono ?_; rintro e w' ⟨rfl, rfl⟩)
        go_round
        case rel =>
          refine ⟨k + 1, by omega, by go_num, fun j hj hj' => ?_⟩
          rcases Nat.lt_or_ge j k with h0 | h0
          · exact hs.out j h0 hj'
          · have : j = k := by omega
            subst this; exact hb
        case measure => simp [intOf]; omega
    · obtain rfl : k = l.length := by omega
      clear hr
      have hall : allI (-2000) 20000 l = true := by
        unfold allI; rw [List.all_eq_true]; intro x hx
        obtain ⟨i, hi, rfl⟩ := List.getElem_of_mem hx
        exact hs.out i hi hi
      have HA := hide hall
      clear hall
      by_cases h1 : 100 < l.length
      all_goals
        go_wp2
        go_ret
        exact ⟨ret_int (by have := HA.out; simp [listCode, magsB, this]; omega), rfl⟩
theorem l02Some_any (A : Option Addr) (c : Nat) (l : List Int) (w : World) (hl : l.length ≤ 1048576) (hr : Rd w w.heap.size 1 A l.length (ints l)) :
    Calls Try.prog 23 #[.slice A l.length c] w fun e w' => e = .returned (.int .i64 (someCode l)) ∧ w = w' := by
  have HR := hide hr
  clear hr
  cases h1 : magsB l
  · have e0 : listCode l = 2 := by simp [listCode, h1]
    go_enter Try.func23, Try.ntmps23
    go_wp2_with (go_at_call 41; refine (l02List_any A c l _ hl HR.out).mono ?_; rintro e w' ⟨rfl, rfl⟩)
    go_ret
    exact ⟨ret_int (by simp [someCode, h1]), rfl⟩
  have e0 : listCode l = 0 := by simp [listCode, h1]
  by_cases h2 : l.length = 0
  · have e2 : l = [] := List.eq_nil_of_length_eq_zero h2
    subst e2
    go_enter Try.func23, Try.ntmps23
    go_wp2_with (go_at_call 41; refine (l02List_any A c [] _ hl HR.out).mono ?_; rintro e w' ⟨rfl, rfl⟩)
    go_ret
    exact ⟨ret_int (by simp [someCode, h1]), rfl⟩
  · have e1 : ((l.length : Int) == 0) = false := by simp; intro h; exact h2 (by simp [h])
    go_enter Try.func23, Try.ntmps23
    go_wp2_with (go_at_call 41; refine (l02List_any A c l _ hl HR.out).mono ?_; rintro e w' ⟨rfl, rfl⟩)
    go_ret
    exact ⟨ret_int (by simp [someCode, h1, h2]), rfl⟩
theorem someCode_cases (l : List Int) : (someCode l = 0 ∧ magsB l = true ∧ 0 < l.length) ∨ (someCode l = 2 ∧ magsB l = false) ∨ (someCode l = 3 ∧ l.length = 0) := by
  unfold someCode
  cases h : magsB l
  · exact .inr (.inl (by simp))
  · by_cases h2 : l.length = 0
    · exact .inr (.inr (by simp [h2]))
    · exact .inl (by simp [h2]; omega)
theorem ints_end : True := trivial
end Go.Proofs.Ytdbfebhmldbdbaa
