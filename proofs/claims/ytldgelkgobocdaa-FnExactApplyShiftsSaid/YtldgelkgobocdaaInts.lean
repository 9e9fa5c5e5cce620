/-
  Contracts of the functions on lists of integers: bounds, codes, sums.
-/
import Derived.Test.YtldgelkgobocdaaNum
import Derived.Test.YtldgelkgobocdaaRec
import Derived.Test.YtldgelkgobocdaaPlC
namespace Go.Proofs.Ytldgelkgobocdaa
open Go.RowKit Pl
set_option linter.unusedVariables false
set_option linter.unusedSimpArgs false
theorem Rd.int {w : World} {B : Nat} {A : Option Addr} {l : List Int} (h : Rd w B 1 A l.length (ints l)) {i : Nat} (hi : i < l.length) :
    ∃ g off, A = some ⟨g, off, none⟩ ∧ g < B ∧ w.cell? ⟨g, off + i, none⟩ = some (.int .i64 l[i]) := by
  rw [← ones] at h
  obtain ⟨g, off, hA, hg, hc⟩ := h.elem one_len hi
  exact ⟨g, off, hA, hg, by have := hc 0 _ rfl; simpa using this⟩
theorem allIn1_any (n lo hi : Int) (g1 g2 : Nat) (w : World) (h1 : w.cell? ⟨g1, 0, none⟩ = some (.int .i64 lo)) (h2 : w.cell? ⟨g2, 0, none⟩ = some (.int .i64 hi)) :
    Calls Try.prog 127 #[.int .i64 n, .pointer (some ⟨g1, 0, none⟩), .pointer (some ⟨g2, 0, none⟩)] w fun e w' => e = .returned (.bool (!inB n lo hi)) ∧ w = w' := by
  go_enter Try.func127, Try.ntmps127
  go_wp2_with (go_at_call 80; refine (in_any _ _ _ _).mono ?_; rintro e w' ⟨rfl, rfl⟩)
  go_ret
  exact ⟨rfl, rfl⟩
theorem IndexFunc_int_any (A : Option Addr) (c : Nat) (l : List Int) (lo hi : Int) (g1 g2 : Nat) (w : World) (hl : l.length ≤ 1048576) (hr : Rd w w.heap.size 1 A l.length (ints l)) (h1 : w.cell? ⟨g1, 0, none⟩ = some (.int .i64 lo)) (h2 : w.cell? ⟨g2, 0, none⟩ = some (.int .i64 hi)) :
    Calls Try.prog 142 #[.slice A l.length c, .func (.func 127) #[] #[.pointer (some ⟨g1, 0, none⟩), .pointer (some ⟨g2, 0, none⟩)]] w fun e w' => e = .returned (.int .i64 (idxBy (fun n => !inB n lo hi) l)) ∧ w = w' := by
  go_enter Try.func142, Try.ntmps142
  go_wp2
  go_loop [8] (fun i => ∃ k : Nat, k ≤ l.length ∧ i = .int .i64 k ∧ Hid (∀ j (h : j < k) (h' : j < l.length), inB (l[j]'h') lo hi = true)) (fun i => l.length - (intOf i).toNat)
  case atStart => exact ⟨0, by omega, rfl, fun j hj => absurd hj (by omega)⟩
  case round =>
    obtain ⟨k, hk, rfl, hs⟩ := hrel
    by_cases hlt : k < l.length
    · obtain ⟨g, off, rfl, hg, hc⟩ := hr.int hlt
      clear hr
      cases hb : inB l[k] lo hi
      · go_wp2_with (go_at_call 127; refine (allIn1_any _ lo hi g1 g2 _ (by assumption) (by assumption)).mono ?_; rintro e w' ⟨rfl, rfl⟩)
        go_ret
        exact ⟨ret_int (idxBy_hit hlt (fun i hi' => by simp [hs.out i hi' (by omega)]) (by simp [hb])).symm, rfl⟩
      · go_wp2_with (go_at_call 127; refine (allIn1_any _ lo hi g1 g2 _ (by assumption) (by assumption)).mono ?_; rintro e w' ⟨rfl, rfl⟩)
        go_round
        case rel =>
          refine ⟨k + 1, by omega, by go_num, fun j hj hj' => ?_⟩
          rcases Nat.lt_or_ge j k with h0 | h0
          · exact hs.out j h0 hj'
          · have : j = k := by omega
            subst this; exact hb
        case measure => simp [intOf]; omega
    · obtain rfl : k = l.length := by omega
      clear hr
      go_wp2
      go_ret
      exact ⟨ret_int (idxBy_none (fun i hi' => by simp [hs.out i hi' hi'])).symm, rfl⟩
theorem ContainsFunc_int_any (A : Option Addr) (c : Nat) (l : List Int) (lo hi : Int) (g1 g2 : Nat) (w : World) (hl : l.length ≤ 1048576) (hr : Rd w w.heap.size 1 A l.length (ints l)) (h1 : w.cell? ⟨g1, 0, none⟩ = some (.int .i64 lo)) (h2 : w.cell? ⟨g2, 0, none⟩ = some (.int .i64 hi)) :
    Calls Try.prog 126 #[.slice A l.length c, .func (.func 127) #[] #[.pointer (some ⟨g1, 0, none⟩), .pointer (some ⟨g2, 0, none⟩)]] w fun e w' => e = .returned (.bool (!allI lo hi l)) ∧ w = w' := by
  have HA := hide (allI_idx lo hi l)
  have HR := hide hr
  have H1 := hide h1
  have H2 := hide h2
  clear hr h1 h2
  go_enter Try.func126, Try.ntmps126
  go_wp2_with (go_at_call 142; refine (IndexFunc_int_any A c l lo hi g1 g2 _ hl HR.out H1.out H2.out).mono ?_; rintro e w' ⟨rfl, rfl⟩)
  go_ret
  exact ⟨ret_bool HA.out, rfl⟩
theorem allIn_any (A : Option Addr) (c : Nat) (l : List Int) (lo hi : Int) (w : World) (hl : l.length ≤ 1048576) (hr : Rd w w.heap.size 1 A l.length (ints l)) :
    Calls Try.prog 90 #[.slice A l.length c, .int .i64 lo, .int .i64 hi] w fun e w' => e = .returned (.bool (allI lo hi l)) ∧ Below w.heap.size w w' := by
  have HR := hide hr
  clear hr
  go_enter Try.func90, Try.ntmps90
  go_wp2_with fail
  refine (ContainsFunc_int_any A c l lo hi _ _ _ hl (((HR.out.alloc (Nat.le_refl _) _).alloc (by simp) _).more (by simp; omega)) (by simp [go_sem]) (by simp [go_sem])).mono ?_
  rintro e w' ⟨rfl, rfl⟩
  go_wp2
  go_ret
  exact ⟨ret_bool (by simp), (by repeat (first | exact Below.refl _ _ | assumption | refine Below.drew ?_ | refine below_drewN ?_ _ | refine Below.alloc ?_ (by first | omega | (simp; done) | (simp; omega)) _ | refine Below.setCell ?_ (by first | omega | (simp; done) | (simp; omega)) _ | refine Below.trans ?_ (Below.mono (by assumption) (by first | omega | (simp; done) | (simp; omega)))))⟩
theorem someCode_cases (l : List Int) : (someCode l = 0 ∧ magsB l = true ∧ 0 < l.length) ∨ (someCode l = 2 ∧ magsB l = false) ∨ (someCode l = 3 ∧ l.length = 0) := by
  unfold someCode
  cases h : magsB l
  · exact .inr (.inl (by simp))
  · by_cases h2 : l.length = 0
    · exact .inr (.inr (by simp [h2]))
    · exact .inl (by simp [h2]; omega)
theorem ints_end : True := trivial
end Go.Proofs.Ytldgelkgobocdaa
