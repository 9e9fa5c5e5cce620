/-
  Contracts of the calendar's functions: is it a date, the date of a day, the day of a date.
-/
import Derived.Test.YtdplmbndafmlgaaDoorDay
namespace Go.Proofs.YtdplmbndafmlgaaDoor
open Go.RowKit Pl
set_option linter.unusedVariables false
set_option linter.unusedSimpArgs false
theorem impl_ValidDate_no1 (y m d : Int) (w : World) (h1 : inB y 2001 2300 = false) : Calls Tryd.prog 64 #[.agg #[.int .i64 y, .int .i64 m, .int .i64 d]] w fun e w' => e = .returned (.bool (vdate y m d)) ∧ Below w.heap.size w w' := by
  go_enter Tryd.func64, Tryd.ntmps64
  go_wp2_with fail
  go_quiet ((go_at_call 79; exact qsame (in_bit h1 _)))
  go_wp2
  go_ret
  exact ⟨ret_bool (by simp [vdate, h1]), (by repeat (first | exact Below.refl _ _ | assumption | refine Below.drew ?_ | refine below_drewN ?_ _ | refine Below.alloc ?_ (by first | omega | (simp; done) | (simp; omega)) _ | refine Below.setCell ?_ (by first | omega | (simp; done) | (simp; omega)) _ | refine Below.trans ?_ (Below.mono (by assumption) (by first | omega | (simp; done) | (simp; omega)))))⟩
theorem impl_ValidDate_no2 (y m d : Int) (w : World) (h1 : inB y 2001 2300 = true) (h2 : inB m 1 12 = false) : Calls Tryd.prog 64 #[.agg #[.int .i64 y, .int .i64 m, .int .i64 d]] w fun e w' => e = .returned (.bool (vdate y m d)) ∧ Below w.heap.size w w' := by
  go_enter Tryd.func64, Tryd.ntmps64
  go_wp2_with fail
  go_quiet (first | (go_at_call 79; with_reducible exact qsame (in_bit h1 _)) | (go_at_call 79; with_reducible exact qsame (in_bit h2 _)))
  go_wp2
  go_ret
  exact ⟨ret_bool (by simp [vdate, h2]), (by repeat (first | exact Below.refl _ _ | assumption | refine Below.drew ?_ | refine below_drewN ?_ _ | refine Below.alloc ?_ (by first | omega | (simp; done) | (simp; omega)) _ | refine Below.setCell ?_ (by first | omega | (simp; done) | (simp; omega)) _ | refine Below.trans ?_ (Below.mono (by assumption) (by first | omega | (simp; done) | (simp; omega)))))⟩
theorem impl_ValidDate_no3 (y m d : Int) (w : World) (h1 : inB y 2001 2300 = true) (h2 : inB m 1 12 = true) (h3 : inB d 1 (mdays y m) = false) : Calls Tryd.prog 64 #[.agg #[.int .i64 y, .int .i64 m, .int .i64 d]] w fun e w' => e = .returned (.bool (vdate y m d)) ∧ Below w.heap.size w w' := by
  obtain ⟨y1, y2⟩ := inB_true h1
  obtain ⟨m1, m2⟩ := inB_true h2
  go_enter Tryd.func64, Tryd.ntmps64
  go_wp2_with fail
  go_quiet (first | (go_at_call 79; exact qsame (in_any _ _ _ _)) | (go_at_call 79; exact qadd (in_any _ _ _ _)) | (go_at_call 89; exact qsame (monthDays_any _ _ _ (by omega) (by omega))) | (go_at_call 89; exact qadd (monthDays_any _ _ _ (by omega) (by omega))))
  go_wp2
  go_ret
  exact ⟨ret_bool (by simp [vdate, h3]), (by repeat (first | exact Below.refl _ _ | assumption | refine Below.drew ?_ | refine below_drewN ?_ _ | refine Below.alloc ?_ (by first | omega | (simp; done) | (simp; omega)) _ | refine Below.setCell ?_ (by first | omega | (simp; done) | (simp; omega)) _ | refine Below.trans ?_ (Below.mono (by assumption) (by first | omega | (simp; done) | (simp; omega)))))⟩
set_option maxHeartbeats 1000000 in
theorem impl_ValidDate_yes (y m d : Int) (w : World) (h1 : inB y 2001 2300 = true) (h2 : inB m 1 12 = true) (h3 : inB d 1 (mdays y m) = true) : Calls Tryd.prog 64 #[.agg #[.int .i64 y, .int .i64 m, .int .i64 d]] w fun e w' => e = .returned (.bool (vdate y m d)) ∧ Below w.heap.size w w' := by
  obtain ⟨y1, y2⟩ := inB_true h1
  obtain ⟨m1, m2⟩ := inB_true h2
  obtain ⟨b1, b2⟩ := mdays_bd y m
  obtain ⟨d1, d2⟩ := inB_true h3
  go_enter Tryd.func64, Tryd.ntmps64
  go_wp2_with fail
  go_region_held3 (fun w' => w'.cell? ⟨w.heap.size, 0, none⟩ = some (.int .i64 y) ∧ w'.cell? ⟨w.heap.size, 1, none⟩ = some (.int .i64 m) ∧ w'.cell? ⟨w.heap.size, 2, none⟩ = some (.int .i64 d)) (go_keep)
    (first | (go_at_call 79; refine (in_any _ _ _ _).mono ?_; rintro e w' ⟨rfl, rfl⟩) | (go_at_call 89; refine (monthDays_any _ _ _ (by omega) (by omega)).mono ?_; rintro e w' ⟨rfl, rfl⟩) | (go_at_call 90; refine (numberOf_any _ _ _ _ (by omega) (by omega) (by omega) (by omega) (by omega) (by omega)).mono ?_; rintro e w' ⟨rfl, hb⟩; obtain ⟨hcb, hfb⟩ := bcell hb))
  all_goals go_wp2
  all_goals go_ret
  all_goals exact ⟨ret_bool (by simp [vdate, h1, h2, h3]), (by repeat (first | exact Below.refl _ _ | assumption | refine Below.drew ?_ | refine below_drewN ?_ _ | refine Below.alloc ?_ (by first | omega | (simp; done) | (simp; omega)) _ | refine Below.setCell ?_ (by first | omega | (simp; done) | (simp; omega)) _ | refine Below.trans ?_ (Below.mono (by assumption) (by first | omega | (simp; done) | (simp; omega)))))⟩
theorem impl_ValidDate_any (y m d : Int) (w : World) : Calls Tryd.prog 64 #[.agg #[.int .i64 y, .int .i64 m, .int .i64 d]] w fun e w' => e = .returned (.bool (vdate y m d)) ∧ Below w.heap.size w w' := by
  cases h1 : inB y 2001 2300
  · exact impl_ValidDate_no1 y m d w h1
  cases h2 : inB m 1 12
  · exact impl_ValidDate_no2 y m d w h1 h2
  cases h3 : inB d 1 (mdays y m)
  · exact impl_ValidDate_no3 y m d w h1 h2 h3
  · exact impl_ValidDate_yes y m d w h1 h2 h3
theorem l03Date_no1 (y m d : Int) (w : World) (h1 : inB y 2001 2300 = false) : Calls Tryd.prog 87 #[.agg #[.int .i64 y, .int .i64 m, .int .i64 d]] w fun e w' => e = .returned (.bool (vdateA y m d)) ∧ Below w.heap.size w w' := by
  go_enter Tryd.func87, Tryd.ntmps87
  go_wp2_with fail
  go_quiet ((go_at_call 77; exact qsame (l00In_bit h1 _)))
  go_wp2
  go_ret
  exact ⟨ret_bool (by simp [vdateA, h1]), (by repeat (first | exact Below.refl _ _ | assumption | refine Below.drew ?_ | refine below_drewN ?_ _ | refine Below.alloc ?_ (by first | omega | (simp; done) | (simp; omega)) _ | refine Below.setCell ?_ (by first | omega | (simp; done) | (simp; omega)) _ | refine Below.trans ?_ (Below.mono (by assumption) (by first | omega | (simp; done) | (simp; omega)))))⟩
theorem l03Date_no2 (y m d : Int) (w : World) (h1 : inB y 2001 2300 = true) (h2 : inB m 1 12 = false) : Calls Tryd.prog 87 #[.agg #[.int .i64 y, .int .i64 m, .int .i64 d]] w fun e w' => e = .returned (.bool (vdateA y m d)) ∧ Below w.heap.size w w' := by
  go_enter Tryd.func87, Tryd.ntmps87
  go_wp2_with fail
  go_quiet (first | (go_at_call 77; with_reducible exact qsame (l00In_bit h1 _)) | (go_at_call 77; with_reducible exact qsame (l00In_bit h2 _)))
  go_wp2
  go_ret
  exact ⟨ret_bool (by simp [vdateA, h2]), (by repeat (first | exact Below.refl _ _ | assumption | refine Below.drew ?_ | refine below_drewN ?_ _ | refine Below.alloc ?_ (by first | omega | (simp; done) | (simp; omega)) _ | refine Below.setCell ?_ (by first | omega | (simp; done) | (simp; omega)) _ | refine Below.trans ?_ (Below.mono (by assumption) (by first | omega | (simp; done) | (simp; omega)))))⟩
set_option maxHeartbeats 1000000 in
theorem l03Date_yes (y m d : Int) (w : World) (h1 : inB y 2001 2300 = true) (h2 : inB m 1 12 = true) : Calls Tryd.prog 87 #[.agg #[.int .i64 y, .int .i64 m, .int .i64 d]] w fun e w' => e = .returned (.bool (vdateA y m d)) ∧ Below w.heap.size w w' := by
  obtain ⟨y1, y2⟩ := inB_true h1
  obtain ⟨m1, m2⟩ := inB_true h2
  go_enter Tryd.func87, Tryd.ntmps87
  go_wp2_with fail
  go_region_held3 (fun w' => w'.cell? ⟨w.heap.size, 0, none⟩ = some (.int .i64 y) ∧ w'.cell? ⟨w.heap.size, 1, none⟩ = some (.int .i64 m) ∧ w'.cell? ⟨w.heap.size, 2, none⟩ = some (.int .i64 d)) (go_keep)
    (first | (go_at_call 77; refine (l00In_any _ _ _ _).mono ?_; rintro e w' ⟨rfl, rfl⟩) | (go_at_call 106; refine (l03Days_any _ _ _ (by omega) (by omega) (by omega) (by omega)).mono ?_; rintro e w' ⟨rfl, hb⟩; obtain ⟨hcb, hfb⟩ := bcell hb))
  all_goals go_wp2
  all_goals go_ret
  all_goals exact ⟨ret_bool (by simp [vdateA, h1, h2]), (by repeat (first | exact Below.refl _ _ | assumption | refine Below.drew ?_ | refine below_drewN ?_ _ | refine Below.alloc ?_ (by first | omega | (simp; done) | (simp; omega)) _ | refine Below.setCell ?_ (by first | omega | (simp; done) | (simp; omega)) _ | refine Below.trans ?_ (Below.mono (by assumption) (by first | omega | (simp; done) | (simp; omega)))))⟩
theorem l03Date_any (y m d : Int) (w : World) : Calls Tryd.prog 87 #[.agg #[.int .i64 y, .int .i64 m, .int .i64 d]] w fun e w' => e = .returned (.bool (vdateA y m d)) ∧ Below w.heap.size w w' := by
  cases h1 : inB y 2001 2300
  · exact l03Date_no1 y m d w h1
  cases h2 : inB m 1 12
  · exact l03Date_no2 y m d w h1 h2
  · exact l03Date_yes y m d w h1 h2
theorem spec_ValidDate_any (y m d : Int) (w : World) : Calls Tryd.prog 62 #[.agg #[.int .i64 y, .int .i64 m, .int .i64 d]] w fun e w' => e = .returned (.bool (vdate y m d)) ∧ Below w.heap.size w w' := by
  have e0 : vdate y m d = (vdateA y m d && decide (num y m d ≤ 100000)) := rfl
  cases h1 : vdateA y m d
  · go_enter Tryd.func62, Tryd.ntmps62
    go_wp2_with (go_at_call 87; refine (l03Date_any _ _ _ _).mono ?_; rintro e w' ⟨rfl, hb⟩; obtain ⟨hcb, hfb⟩ := bcell hb; have hzb := hb.size; try simp at hzb; try (have hzl := Nat.lt_of_succ_le hzb); try (have hz0 : w.heap.size < w'.heap.size := by omega); try (have hz1 : w.heap.size + 1 < w'.heap.size := by omega); try (have hz2 : w.heap.size + 2 < w'.heap.size := by omega))
    go_ret
    exact ⟨ret_bool (by simp [e0, h1]), (by repeat (first | exact Below.refl _ _ | assumption | refine Below.drew ?_ | refine below_drewN ?_ _ | refine Below.alloc ?_ (by first | omega | (simp; done) | (simp; omega)) _ | refine Below.setCell ?_ (by first | omega | (simp; done) | (simp; omega)) _ | refine Below.trans ?_ (Below.mono (by assumption) (by first | omega | (simp; done) | (simp; omega)))))⟩
  · obtain ⟨a1, a2, a3, a4, a5, a6⟩ := vdateA_true h1
    have E0 := hide e0
    clear e0
    go_enter Tryd.func62, Tryd.ntmps62
    go_wp2_with (first | (go_at_call 87; refine (l03Date_any _ _ _ _).mono ?_; rintro e w' ⟨rfl, hb⟩; obtain ⟨hcb, hfb⟩ := bcell hb; have hzb := hb.size; try simp at hzb; try (have hzl := Nat.lt_of_succ_le hzb); try (have hz0 : w.heap.size < w'.heap.size := by omega); try (have hz1 : w.heap.size + 1 < w'.heap.size := by omega); try (have hz2 : w.heap.size + 2 < w'.heap.size := by omega)) | (go_at_call 88; refine (l03Number_any _ _ _ _ (by omega) (by omega) (by omega) (by omega) (by omega) (by omega)).mono ?_; rintro e w' ⟨rfl, hb⟩; obtain ⟨hcb, hfb⟩ := bcell hb; have hzb := hb.size; try simp at hzb; try (have hzl := Nat.lt_of_succ_le hzb); try (have hz0 : w.heap.size < w'.heap.size := by omega); try (have hz1 : w.heap.size + 1 < w'.heap.size := by omega); try (have hz2 : w.heap.size + 2 < w'.heap.size := by omega)))
    go_ret
    exact ⟨ret_bool (by simp [E0.out, h1]), (by repeat (first | exact Below.refl _ _ | assumption | refine Below.drew ?_ | refine below_drewN ?_ _ | refine Below.alloc ?_ (by first | omega | (simp; done) | (simp; omega)) _ | refine Below.setCell ?_ (by first | omega | (simp; done) | (simp; omega)) _ | refine Below.trans ?_ (Below.mono (by assumption) (by first | omega | (simp; done) | (simp; omega)))))⟩
theorem dayB_end : True := trivial
end Go.Proofs.YtdplmbndafmlgaaDoor
