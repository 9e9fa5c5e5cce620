/-
  Contracts of the calendar's functions.
-/
import Derived.Test.YtdplmbndafmlgaaDoorNum
import Derived.Test.YtdplmbndafmlgaaDoorPlA
import Derived.Deep.RegionHeld3
import Derived.Outline
namespace Go.Proofs.YtdplmbndafmlgaaDoor
open Go.RowKit Pl
set_option linter.unusedVariables false
set_option linter.unusedSimpArgs false
theorem isLeap_any (y : Int) (w : World) (h : 0 ≤ y) (k : y ≤ 1000000) : Calls Tryd.prog 128 #[.int .i64 y] w fun e w' => e = .returned (.bool (leap y)) ∧ w = w' := by
  by_cases h1 : y % 4 = 0 <;> by_cases h2 : y % 100 = 0 <;> by_cases h3 : y % 400 = 0
  all_goals
    go_enter Tryd.func128, Tryd.ntmps128
    go_wp2
    go_ret
    exact ⟨ret_bool (by simp [leap, h1, h2, h3]), rfl⟩
theorem l03Leap_any (y : Int) (w : World) (h : 0 ≤ y) (k : y ≤ 1000000) : Calls Tryd.prog 127 #[.int .i64 y] w fun e w' => e = .returned (.bool (leap y)) ∧ w = w' := by
  by_cases h1 : y % 4 = 0 <;> by_cases h2 : y % 100 = 0 <;> by_cases h3 : y % 400 = 0
  all_goals
    go_enter Tryd.func127, Tryd.ntmps127
    go_wp2
    go_ret
    exact ⟨ret_bool (by simp [leap, h1, h2, h3]), rfl⟩
theorem yearDays_any (y : Int) (w : World) (h : 0 ≤ y) (k : y ≤ 1000000) : Calls Tryd.prog 108 #[.int .i64 y] w fun e w' => e = .returned (.int .i64 (ydays y)) ∧ w = w' := by
  cases h1 : leap y
  all_goals
    go_enter Tryd.func108, Tryd.ntmps108
    go_wp2_with (go_at_call 128; refine (isLeap_any _ _ (by omega) (by omega)).mono ?_; rintro e w' ⟨rfl, rfl⟩)
    go_ret
    exact ⟨ret_int (by simp [ydays, h1]), rfl⟩
theorem monthDays_any (y m : Int) (w : World) (h : 0 ≤ y) (k : y ≤ 1000000) : Calls Tryd.prog 89 #[.int .i64 y, .int .i64 m] w fun e w' => e = .returned (.int .i64 (mdays y m)) ∧ w = w' := by
  obtain ⟨y1, y2⟩ : 365 ≤ ydays y ∧ ydays y ≤ 366 := by have := ydays_01 y; omega
  by_cases a1 : m = 4
  · subst a1
    go_enter Tryd.func89, Tryd.ntmps89
    go_wp2
    go_ret
    exact ⟨rfl, rfl⟩
  by_cases a2 : m = 6
  · subst a2
    go_enter Tryd.func89, Tryd.ntmps89
    go_wp2
    go_ret
    exact ⟨rfl, rfl⟩
  by_cases a3 : m = 9
  · subst a3
    go_enter Tryd.func89, Tryd.ntmps89
    go_wp2
    go_ret
    exact ⟨rfl, rfl⟩
  by_cases a4 : m = 11
  · subst a4
    go_enter Tryd.func89, Tryd.ntmps89
    go_wp2
    go_ret
    exact ⟨rfl, rfl⟩
  by_cases a5 : m = 2
  · subst a5
    go_enter Tryd.func89, Tryd.ntmps89
    go_wp2_with (go_at_call 108; refine (yearDays_any _ _ (by omega) (by omega)).mono ?_; rintro e w' ⟨rfl, rfl⟩)
    go_ret
    exact ⟨rfl, rfl⟩
  have b1 : (m == 4) = false := by simpa using a1
  have b2 : (m == 6) = false := by simpa using a2
  have b3 : (m == 9) = false := by simpa using a3
  have b4 : (m == 11) = false := by simpa using a4
  have b5 : (m == 2) = false := by simpa using a5
  go_enter Tryd.func89, Tryd.ntmps89
  go_wp2
  go_ret
  exact ⟨ret_int (by simp [mdays, a1, a2, a3, a4, a5]), rfl⟩
theorem numberOf_any (y m d : Int) (w : World) (h : 2001 ≤ y) (k : y ≤ 100000) (h2 : 1 ≤ m) (k2 : m ≤ 12) (h3 : -1000 ≤ d) (k3 : d ≤ 1000) : Calls Tryd.prog 90 #[.agg #[.int .i64 y, .int .i64 m, .int .i64 d]] w fun e w' => e = .returned (.int .i64 (num y m d)) ∧ Below w.heap.size w w' := by
  go_enter Tryd.func90, Tryd.ntmps90
  go_wp2
  go_loop [3, 4] (fun s t => ∃ Y : Int, 2001 ≤ Y ∧ Y ≤ y ∧ t = .int .i64 Y ∧ s = .int .i64 (yst Y + (d - 1))) (fun _ t => (y - intOf t).toNat)
  case atStart => exact ⟨2001, by omega, by omega, rfl, by simp [yst]⟩
  case round =>
    obtain ⟨Y, hY, hY2, rfl, rfl⟩ := hrel
    obtain ⟨y1, y2⟩ : 365 ≤ ydays Y ∧ ydays Y ≤ 366 := by have := ydays_01 Y; omega
    obtain ⟨s1, s2⟩ : 0 ≤ yst Y ∧ yst Y ≤ 40000000 := by unfold yst; omega
    have hs := hide (yst_succ Y)
    by_cases hlt : Y < y
    · go_wp2_with (go_at_call 108; refine (yearDays_any _ _ (by omega) (by omega)).mono ?_; rintro e w' ⟨rfl, rfl⟩)
      go_round
      case rel => exact ⟨Y + 1, by omega, by omega, rfl, by rw [hs.out]; congr 1; omega⟩
      case measure => simp [intOf]; omega
    · obtain rfl : Y = y := by omega
      go_wp2
      go_loop [3, 5] (fun s t => ∃ k : Nat, (k : Int) + 1 ≤ m ∧ t = .int .i64 ((k : Int) + 1) ∧ s = .int .i64 (yst Y + (d - 1) + cum Y k)) (fun _ t => (m - intOf t).toNat)
      case atStart => exact ⟨0, by omega, rfl, by simp [cum]⟩
      case round =>
        obtain ⟨j, hj, rfl, rfl⟩ := hrel
        obtain ⟨m1, m2⟩ := mdays_bd Y ((j : Int) + 1)
        obtain ⟨c1, c2⟩ := cum_bd Y j
        have hc := hide (cum_succ Y j)
        by_cases hlt2 : (j : Int) + 1 < m
        · go_wp2_with (go_at_call 89; refine (monthDays_any _ _ _ (by omega) (by omega)).mono ?_; rintro e w' ⟨rfl, rfl⟩)
          go_round
          case rel => exact ⟨j + 1, by omega, by go_num, by rw [hc.out]; congr 1; omega⟩
          case measure => simp [intOf]; omega
        · have e1 : (m - 1).toNat = j := by omega
          have E1 := hide e1
          clear e1
          go_wp2
          go_ret
          exact ⟨ret_int (by unfold num; rw [E1.out]; omega), (by repeat (first | exact Below.refl _ _ | assumption | refine Below.drew ?_ | refine below_drewN ?_ _ | refine Below.alloc ?_ (by first | omega | (simp; done) | (simp; omega)) _ | refine Below.setCell ?_ (by first | omega | (simp; done) | (simp; omega)) _ | refine Below.trans ?_ (Below.mono (by assumption) (by first | omega | (simp; done) | (simp; omega)))))⟩
theorem l03Start_any (y : Int) (w : World) (h : 2001 ≤ y) (k : y ≤ 100000) : Calls Tryd.prog 107 #[.int .i64 y] w fun e w' => e = .returned (.int .i64 (yst y)) ∧ w = w' := by
  go_enter Tryd.func107, Tryd.ntmps107
  go_wp2
  go_ret
  exact ⟨ret_int (by unfold yst; omega), rfl⟩
set_option maxHeartbeats 2000000 in
theorem l03Days_any (y m : Int) (w : World) (h : 0 ≤ y) (k : y ≤ 1000000) (h2 : 1 ≤ m) (k2 : m ≤ 12) : Calls Tryd.prog 106 #[.int .i64 y, .int .i64 m] w fun e w' => e = .returned (.int .i64 (mdays y m)) ∧ Below w.heap.size w w' := by
  obtain rfl | hm : m = 2 ∨ m ≠ 2 := by omega
  · cases h1 : leap y
    all_goals
      go_enter Tryd.func106, Tryd.ntmps106
      go_wp2_with (go_at_call 127; refine (l03Leap_any _ _ (by omega) (by omega)).mono ?_; rintro e w' ⟨rfl, rfl⟩)
      go_ret
      exact ⟨ret_int (by simp [mdays, ydays, h1]), (by repeat (first | exact Below.refl _ _ | assumption | refine Below.drew ?_ | refine below_drewN ?_ _ | refine Below.alloc ?_ (by first | omega | (simp; done) | (simp; omega)) _ | refine Below.setCell ?_ (by first | omega | (simp; done) | (simp; omega)) _ | refine Below.trans ?_ (Below.mono (by assumption) (by first | omega | (simp; done) | (simp; omega)))))⟩
  · have e2 : (m == 2) = false := by simpa using hm
    obtain rfl | rfl | rfl | rfl | rfl | rfl | rfl | rfl | rfl | rfl | rfl : m = 1 ∨ m = 3 ∨ m = 4 ∨ m = 5 ∨ m = 6 ∨ m = 7 ∨ m = 8 ∨ m = 9 ∨ m = 10 ∨ m = 11 ∨ m = 12 := by omega
    all_goals clear hm e2 h2 k2
    all_goals
      go_enter Tryd.func106, Tryd.ntmps106
      go_wp2
      go_ret
      exact ⟨rfl, (by repeat (first | exact Below.refl _ _ | assumption | refine Below.drew ?_ | refine below_drewN ?_ _ | refine Below.alloc ?_ (by first | omega | (simp; done) | (simp; omega)) _ | refine Below.setCell ?_ (by first | omega | (simp; done) | (simp; omega)) _ | refine Below.trans ?_ (Below.mono (by assumption) (by first | omega | (simp; done) | (simp; omega)))))⟩
theorem l03Number_any (y m d : Int) (w : World) (h : 2001 ≤ y) (k : y ≤ 100000) (h2 : 1 ≤ m) (k2 : m ≤ 12) (h3 : -1000 ≤ d) (k3 : d ≤ 1000) : Calls Tryd.prog 88 #[.agg #[.int .i64 y, .int .i64 m, .int .i64 d]] w fun e w' => e = .returned (.int .i64 (num y m d)) ∧ Below w.heap.size w w' := by
  obtain ⟨s1, s2⟩ : 0 ≤ yst y ∧ yst y ≤ 40000000 := by unfold yst; omega
  go_enter Tryd.func88, Tryd.ntmps88
  go_wp2_with (go_at_call 107; refine (l03Start_any _ _ (by omega) (by omega)).mono ?_; rintro e w' ⟨rfl, rfl⟩)
  go_loopw [3, 4] (fun s t wr => ∃ j : Nat, (j : Int) + 1 ≤ m ∧ t = .int .i64 ((j : Int) + 1) ∧ s = .int .i64 (yst y + cum y j) ∧ Below (w.heap.size + 1) (w.alloc (.cells #[.int .i64 y, .int .i64 m, .int .i64 d] 34)) wr) (fun _ t _ => (m - intOf t).toNat)
  case atStart => exact ⟨0, by omega, rfl, by simp [cum], Below.refl _ _⟩
  case round =>
    obtain ⟨j, hj, rfl, rfl, hb⟩ := hrel
    obtain ⟨m1, m2⟩ := mdays_bd y ((j : Int) + 1)
    obtain ⟨c1, c2⟩ := cum_bd y j
    have hc := hide (cum_succ y j)
    have hb0 : Below (w.alloc (.cells #[.int .i64 y, .int .i64 m, .int .i64 d] 34)).heap.size (w.alloc (.cells #[.int .i64 y, .int .i64 m, .int .i64 d] 34)) wr := hb.mono (by simp)
    obtain ⟨hcb, hfb⟩ := bcell hb0
    by_cases hlt2 : (j : Int) + 1 < m
    · go_wp2_with (go_at_call 106; refine (l03Days_any _ _ _ (by omega) (by omega) (by omega) (by omega)).mono ?_; rintro e w1 ⟨rfl, hb1⟩)
      go_roundw
      case rel => exact ⟨j + 1, by omega, by go_num, by first | (rw [hc.out]; done) | (rw [hc.out]; congr 1; omega), hb.trans (hb1.mono (by have := hb.size; simp at this; omega))⟩
      case measure => simp [intOf]; omega
    · have e1 : (m - 1).toNat = j := by omega
      have E1 := hide e1
      clear e1
      go_wp2
      go_ret
      exact ⟨ret_int (by unfold num; rw [E1.out]), ((Below.refl _ _).alloc (Nat.le_refl _) _).trans (hb.mono (by omega))⟩
theorem day_end : True := trivial
end Go.Proofs.YtdplmbndafmlgaaDoor
