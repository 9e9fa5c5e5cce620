/-
  Contracts of the functions that find the least, the greatest and the neighbours in a list of integers.
-/
import Derived.Test.YtjflebgaemgeeaaInts
import Derived.Outline
namespace Go.Proofs.Ytjflebgaemgeeaa
open Go.RowKit Pl
set_option linter.unusedVariables false
set_option linter.unusedSimpArgs false
theorem minTo_succ {l : List Int} {k : Nat} (h : k + 1 < l.length) : minTo l (k + 1) = minI (minTo l k) (l[k + 1]'h) := by
  simp only [minTo]; rw [List.getD_eq_getElem?_getD, List.getElem?_eq_getElem h]; rfl
theorem maxTo_succ {l : List Int} {k : Nat} (h : k + 1 < l.length) : maxTo l (k + 1) = maxI (maxTo l k) (l[k + 1]'h) := by
  simp only [maxTo]; rw [List.getD_eq_getElem?_getD, List.getElem?_eq_getElem h]; rfl
theorem minTo_zero {l : List Int} (h : 0 < l.length) : minTo l 0 = l[0]'h := by
  simp only [minTo]; rw [List.getD_eq_getElem?_getD, List.getElem?_eq_getElem h]; rfl
theorem maxTo_zero {l : List Int} (h : 0 < l.length) : maxTo l 0 = l[0]'h := by
  simp only [maxTo]; rw [List.getD_eq_getElem?_getD, List.getElem?_eq_getElem h]; rfl
theorem l00Min_any (a b : Int) (w : World) : Calls Try.prog 70 #[.int .i64 a, .int .i64 b] w fun e w' => e = .returned (.int .i64 (minI a b)) ∧ w = w' := by
  by_cases h1 : a < b
  all_goals
    go_enter Try.func70, Try.ntmps70
    go_wp2
    go_ret
    exact ⟨ret_int (by unfold minI; split <;> omega), rfl⟩
theorem l00Max_any (a b : Int) (w : World) : Calls Try.prog 61 #[.int .i64 a, .int .i64 b] w fun e w' => e = .returned (.int .i64 (maxI a b)) ∧ w = w' := by
  by_cases h1 : b < a
  all_goals
    go_enter Try.func61, Try.ntmps61
    go_wp2
    go_ret
    exact ⟨ret_int (by unfold maxI; split <;> omega), rfl⟩
theorem Min_any (A : Option Addr) (c : Nat) (l : List Int) (w : World) (hl : l.length ≤ 1048576) (h0 : 0 < l.length) (hr : Rd w w.heap.size 1 A l.length (ints l)) :
    Calls Try.prog 72 #[.slice A l.length c] w fun e w' => e = .returned (.int .i64 (minTo l (l.length - 1))) ∧ w = w' := by
  obtain ⟨g0, off0, rfl, hg0, hc0⟩ := hr.int h0
  have hc0 : w.cell? ⟨g0, off0, none⟩ = some (.int .i64 (l[0]'h0)) := hc0
  have hz := hide (minTo_zero h0)
  go_enter Try.func72, Try.ntmps72
  go_wp2
  go_loop [3, 4] (fun t i => ∃ j : Nat, j + 1 ≤ l.length ∧ i = .int .i64 ((j : Int) + 1) ∧ t = .int .i64 (minTo l j)) (fun _ i => l.length - (intOf i).toNat)
  case atStart => exact ⟨0, by omega, rfl, by rw [hz.out]⟩
  case round =>
    obtain ⟨j, hk, rfl, rfl⟩ := hrel
    clear hc0
    by_cases hlt : j + 1 < l.length
    · obtain ⟨g, off, he, hg, hc⟩ := hr.int hlt
      injection he with he
      injection he with he1 he2 _
      subst he1 he2
      have hs := hide (minTo_succ hlt)
      clear hr
      by_cases hle : minTo l j ≤ l[j + 1]
      all_goals
        go_wp2
        go_round
        case rel => exact ⟨j + 1, by omega, by go_num, by rw [hs.out, minI]; split <;> simp <;> omega⟩
        case measure => simp [intOf]; omega
    · have e1 : l.length - 1 = j := by omega
      have E1 := hide e1
      clear e1 hr
      go_wp2
      go_ret
      exact ⟨ret_int (by rw [E1.out]), rfl⟩
theorem Max_any (A : Option Addr) (c : Nat) (l : List Int) (w : World) (hl : l.length ≤ 1048576) (h0 : 0 < l.length) (hr : Rd w w.heap.size 1 A l.length (ints l)) :
    Calls Try.prog 73 #[.slice A l.length c] w fun e w' => e = .returned (.int .i64 (maxTo l (l.length - 1))) ∧ w = w' := by
  obtain ⟨g0, off0, rfl, hg0, hc0⟩ := hr.int h0
  have hc0 : w.cell? ⟨g0, off0, none⟩ = some (.int .i64 (l[0]'h0)) := hc0
  have hz := hide (maxTo_zero h0)
  go_enter Try.func73, Try.ntmps73
  go_wp2
  go_loop [3, 4] (fun t i => ∃ j : Nat, j + 1 ≤ l.length ∧ i = .int .i64 ((j : Int) + 1) ∧ t = .int .i64 (maxTo l j)) (fun _ i => l.length - (intOf i).toNat)
  case atStart => exact ⟨0, by omega, rfl, by rw [hz.out]⟩
  case round =>
    obtain ⟨j, hk, rfl, rfl⟩ := hrel
    clear hc0
    by_cases hlt : j + 1 < l.length
    · obtain ⟨g, off, he, hg, hc⟩ := hr.int hlt
      injection he with he
      injection he with he1 he2 _
      subst he1 he2
      have hs := hide (maxTo_succ hlt)
      clear hr
      by_cases hle : l[j + 1] ≤ maxTo l j
      all_goals
        go_wp2
        go_round
        case rel => exact ⟨j + 1, by omega, by go_num, by rw [hs.out, maxI]; split <;> simp <;> omega⟩
        case measure => simp [intOf]; omega
    · have e1 : l.length - 1 = j := by omega
      have E1 := hide e1
      clear e1 hr
      go_wp2
      go_ret
      exact ⟨ret_int (by rw [E1.out]), rfl⟩
theorem impl_RangeOfMags_any (A : Option Addr) (c : Nat) (l : List Int) (w : World) (hl : l.length ≤ 1048576) (hr : Rd w w.heap.size 1 A l.length (ints l)) :
    Calls Try.prog 27 #[.slice A l.length c] w fun e w' => e = .returned (.tuple #[.int .i64 (rangeOf l).1, .int .i64 (rangeOf l).2.1, .int .i64 (rangeOf l).2.2]) ∧ Below w.heap.size w w' := by
  have HR := hide hr
  clear hr
  rcases someCode_cases l with ⟨h1, h2, h3⟩ | ⟨h1, h2⟩ | ⟨h1, h2⟩
  · have H2 := hide h2
    clear h2
    go_enter Try.func27, Try.ntmps27
    go_wp2_with fail
    refine (someMags_any A c l _ hl HR.out).mono ?_
    rintro e w1 ⟨rfl, b⟩
    have R1 := hide ((HR.out.below b).more b.size)
    go_wp2_with (first
      | (go_at_call 72; refine (Min_any A c l _ hl h3 R1.out).mono ?_; rintro e w' ⟨rfl, rfl⟩)
      | (go_at_call 73; refine (Max_any A c l _ hl h3 R1.out).mono ?_; rintro e w' ⟨rfl, rfl⟩))
    go_ret3
    exact ⟨ret3 (by simp [rangeOf, h1]), b⟩
  · go_enter Try.func27, Try.ntmps27
    go_wp2_with (go_at_call 71; refine (someMags_any A c l _ hl HR.out).mono ?_; rintro e w' ⟨rfl, hb⟩)
    go_ret3
    exact ⟨ret3 (by simp [rangeOf, h1]), (by repeat (first | exact Below.refl _ _ | assumption | refine Below.drew ?_ | refine below_drewN ?_ _ | refine Below.alloc ?_ (by first | omega | (simp; done) | (simp; omega)) _ | refine Below.setCell ?_ (by first | omega | (simp; done) | (simp; omega)) _ | refine Below.trans ?_ (Below.mono (by assumption) (by first | omega | (simp; done) | (simp; omega)))))⟩
  · have H2 := hide h2
    clear h2
    go_enter Try.func27, Try.ntmps27
    go_wp2_with (go_at_call 71; refine (someMags_any A c l _ hl HR.out).mono ?_; rintro e w' ⟨rfl, hb⟩)
    go_ret3
    exact ⟨ret3 (by simp [rangeOf, h1]), (by repeat (first | exact Below.refl _ _ | assumption | refine Below.drew ?_ | refine below_drewN ?_ _ | refine Below.alloc ?_ (by first | omega | (simp; done) | (simp; omega)) _ | refine Below.setCell ?_ (by first | omega | (simp; done) | (simp; omega)) _ | refine Below.trans ?_ (Below.mono (by assumption) (by first | omega | (simp; done) | (simp; omega)))))⟩
theorem spec_RangeOfMags_any (A : Option Addr) (c : Nat) (l : List Int) (w : World) (hl : l.length ≤ 1048576) (hr : Rd w w.heap.size 1 A l.length (ints l)) :
    Calls Try.prog 26 #[.slice A l.length c] w fun e w' => e = .returned (.tuple #[.int .i64 (rangeOf l).1, .int .i64 (rangeOf l).2.1, .int .i64 (rangeOf l).2.2]) ∧ w = w' := by
  have HR := hide hr
  rcases someCode_cases l with ⟨h1, h2, h3⟩ | ⟨h1, h2⟩ | ⟨h1, h2⟩
  · have H2 := hide h2
    clear h2
    obtain ⟨g0, off0, rfl, hg0, hc0⟩ := hr.int h3
    have hc0 : w.cell? ⟨g0, off0, none⟩ = some (.int .i64 (l[0]'h3)) := hc0
    have hz1 := hide (minTo_zero h3)
    have hz2 := hide (maxTo_zero h3)
    go_enter Try.func26, Try.ntmps26
    go_wp2_with (go_at_call 69; refine (l02Some_any _ c l _ hl HR.out).mono ?_; rintro e w' ⟨rfl, rfl⟩)
    go_loop [6, 7, 8] (fun s t i => ∃ j : Nat, j + 1 ≤ l.length ∧ i = .int .i64 ((j : Int) + 1) ∧ s = .int .i64 (minTo l j) ∧ t = .int .i64 (maxTo l j)) (fun _ _ i => l.length - (intOf i).toNat)
    case atStart => exact ⟨0, by omega, rfl, by rw [hz1.out], by rw [hz2.out]⟩
    case round =>
      obtain ⟨j, hk, rfl, rfl, rfl⟩ := hrel
      clear hc0
      by_cases hlt : j + 1 < l.length
      · obtain ⟨g, off, he, hg, hc⟩ := hr.int hlt
        injection he with he
        injection he with he1 he2 _
        subst he1 he2
        have hs := hide (minTo_succ hlt)
        have ht := hide (maxTo_succ hlt)
        clear hr
        go_wp2_with (first | (go_at_call 70; refine (l00Min_any _ _ _).mono ?_; rintro e w' ⟨rfl, rfl⟩) | (go_at_call 61; refine (l00Max_any _ _ _).mono ?_; rintro e w' ⟨rfl, rfl⟩))
        go_round
        case rel => exact ⟨j + 1, by omega, by go_num, by rw [hs.out], by rw [ht.out]⟩
        case measure => simp [intOf]; omega
      · have e1 : l.length - 1 = j := by omega
        have E1 := hide e1
        clear e1 hr
        go_wp2
        go_ret3
        exact ⟨ret3 (by rw [rangeOf, if_pos h1, E1.out]), rfl⟩
  · clear hr
    go_enter Try.func26, Try.ntmps26
    go_wp2_with (go_at_call 69; refine (l02Some_any A c l _ hl HR.out).mono ?_; rintro e w' ⟨rfl, rfl⟩)
    go_ret3
    exact ⟨ret3 (by simp [rangeOf, h1]), rfl⟩
  · have H2 := hide h2
    clear h2 hr
    go_enter Try.func26, Try.ntmps26
    go_wp2_with (go_at_call 69; refine (l02Some_any A c l _ hl HR.out).mono ?_; rintro e w' ⟨rfl, rfl⟩)
    go_ret3
    exact ⟨ret3 (by simp [rangeOf, h1]), rfl⟩
theorem lowTo_succ {l : List Int} {m : Int} {k : Nat} (h : k < l.length) : lowTo l m (k + 1) = if l[k]'h ≤ m ∧ (lowTo l m k < 0 ∨ l.getD (lowTo l m k).toNat 0 < l[k]'h) then (k : Int) else lowTo l m k := by
  have e : l.getD k 0 = l[k]'h := by rw [List.getD_eq_getElem?_getD, List.getElem?_eq_getElem h]; rfl
  simp only [lowTo, e]
theorem highTo_succ {l : List Int} {m : Int} {k : Nat} (h : k < l.length) : highTo l m (k + 1) = if m < l[k]'h ∧ (highTo l m k < 0 ∨ l[k]'h < l.getD (highTo l m k).toNat 0) then (k : Int) else highTo l m k := by
  have e : l.getD k 0 = l[k]'h := by rw [List.getD_eq_getElem?_getD, List.getElem?_eq_getElem h]; rfl
  simp only [highTo, e]
theorem getD_at {l : List Int} {p : Nat} (h : p < l.length) : l.getD ((p : Int).toNat) 0 = l[p]'h := by
  rw [Int.toNat_natCast, List.getD_eq_getElem?_getD, List.getElem?_eq_getElem h]; rfl
theorem low_cases (l : List Int) (m : Int) (k : Nat) : lowTo l m k = -1 ∨ ∃ p : Nat, p < k ∧ lowTo l m k = p := by
  have := lowTo_bd l m k
  rcases Int.lt_or_le (lowTo l m k) 0 with h | h
  · left; omega
  · right; exact ⟨(lowTo l m k).toNat, by omega, by omega⟩
theorem high_cases (l : List Int) (m : Int) (k : Nat) : highTo l m k = -1 ∨ ∃ p : Nat, p < k ∧ highTo l m k = p := by
  have := highTo_bd l m k
  rcases Int.lt_or_le (highTo l m k) 0 with h | h
  · left; omega
  · right; exact ⟨(highTo l m k).toNat, by omega, by omega⟩
/-- What one round does to the two places. -/
def lowNext (x m : Int) (k : Nat) (low : Int) (y : Int) : Int := if x ≤ m ∧ (low < 0 ∨ y < x) then (k : Int) else low
def highNext (x m : Int) (k : Nat) (high : Int) (y : Int) : Int := if m < x ∧ (high < 0 ∨ x < y) then (k : Int) else high
theorem intsB_end : True := trivial
end Go.Proofs.Ytjflebgaemgeeaa
