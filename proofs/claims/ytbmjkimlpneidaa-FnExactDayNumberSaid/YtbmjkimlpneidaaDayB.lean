/-
  Contracts of the calendar's functions: is it a date, the date of a day, the day of a date.
-/
import Derived.Test.YtbmjkimlpneidaaDay
namespace Go.Proofs.Ytbmjkimlpneidaa
open Go.RowKit Pl
set_option linter.unusedVariables false
set_option linter.unusedSimpArgs false
theorem impl_ValidDate_no1 (y m d : Int) (w : World) (h1 : inB y 2001 2300 = false) : Calls Try.prog 30 #[.agg #[.int .i64 y, .int .i64 m, .int .i64 d]] w fun e w' => e = .returned (.bool (vdate y m d)) ∧ Below w.heap.size w w' := by
  go_enter Try.func30, Try.ntmps30
  go_wp2_with fail
  go_quiet ((go_at_call 46; exact qsame (in_bit h1 _)))
  go_wp2
  go_ret
  exact ⟨ret_bool (by simp [vdate, h1]), (by repeat (first | exact Below.refl _ _ | assumption | refine Below.drew ?_ | refine below_drewN ?_ _ | refine Below.alloc ?_ (by first | omega | (simp; done) | (simp; omega)) _ | refine Below.setCell ?_ (by first | omega | (simp; done) | (simp; omega)) _ | refine Below.trans ?_ (Below.mono (by assumption) (by first | omega | (simp; done) | (simp; omega)))))⟩
theorem impl_ValidDate_no2 (y m d : Int) (w : World) (h1 : inB y 2001 2300 = true) (h2 : inB m 1 12 = false) : Calls Try.prog 30 #[.agg #[.int .i64 y, .int .i64 m, .int .i64 d]] w fun e w' => e = .returned (.bool (vdate y m d)) ∧ Below w.heap.size w w' := by
  go_enter Try.func30, Try.ntmps30
  go_wp2_with fail
  go_quiet (first | (go_at_call 46; with_reducible exact qsame (in_bit h1 _)) | (go_at_call 46; with_reducible exact qsame (in_bit h2 _)))
  go_wp2
  go_ret
  exact ⟨ret_bool (by simp [vdate, h2]), (by repeat (first | exact Below.refl _ _ | assumption | refine Below.drew ?_ | refine below_drewN ?_ _ | refine Below.alloc ?_ (by first | omega | (simp; done) | (simp; omega)) _ | refine Below.setCell ?_ (by first | omega | (simp; done) | (simp; omega)) _ | refine Below.trans ?_ (Below.mono (by assumption) (by first | omega | (simp; done) | (simp; omega)))))⟩
theorem impl_ValidDate_no3 (y m d : Int) (w : World) (h1 : inB y 2001 2300 = true) (h2 : inB m 1 12 = true) (h3 : inB d 1 (mdays y m) = false) : Calls Try.prog 30 #[.agg #[.int .i64 y, .int .i64 m, .int .i64 d]] w fun e w' => e = .returned (.bool (vdate y m d)) ∧ Below w.heap.size w w' := by
  obtain ⟨y1, y2⟩ := inB_true h1
  obtain ⟨m1, m2⟩ := inB_true h2
  go_enter Try.func30, Try.ntmps30
  go_wp2_with fail
  go_quiet (first | (go_at_call 46; exact qsame (in_any _ _ _ _)) | (go_at_call 46; exact qadd (in_any _ _ _ _)) | (go_at_call 57; exact qsame (monthDays_any _ _ _ (by omega) (by omega))) | (go_at_call 57; exact qadd (monthDays_any _ _ _ (by omega) (by omega))))
  go_wp2
  go_ret
  exact ⟨ret_bool (by simp [vdate, h3]), (by repeat (first | exact Below.refl _ _ | assumption | refine Below.drew ?_ | refine below_drewN ?_ _ | refine Below.alloc ?_ (by first | omega | (simp; done) | (simp; omega)) _ | refine Below.setCell ?_ (by first | omega | (simp; done) | (simp; omega)) _ | refine Below.trans ?_ (Below.mono (by assumption) (by first | omega | (simp; done) | (simp; omega)))))⟩
set_option maxHeartbeats 1000000 in
theorem impl_ValidDate_yes (y m d : Int) (w : World) (h1 : inB y 2001 2300 = true) (h2 : inB m 1 12 = true) (h3 : inB d 1 (mdays y m) = true) : Calls Try.prog 30 #[.agg #[.int .i64 y, .int .i64 m, .int .i64 d]] w fun e w' => e = .returned (.bool (vdate y m d)) ∧ Below w.heap.size w w' := by
  obtain ⟨y1, y2⟩ := inB_true h1
  obtain ⟨m1, m2⟩ := inB_true h2
  obtain ⟨b1, b2⟩ := mdays_bd y m
  obtain ⟨d1, d2⟩ := inB_true h3
  go_enter Try.func30, Try.ntmps30
  go_wp2_with fail
  go_region_held3 (fun w' => w'.cell? ⟨w.heap.size, 0, none⟩ = some (.int .i64 y) ∧ w'.cell? ⟨w.heap.size, 1, none⟩ = some (.int .i64 m) ∧ w'.cell? ⟨w.heap.size, 2, none⟩ = some (.int .i64 d)) (go_keep)
    (first | (go_at_call 46; refine (in_any _ _ _ _).mono ?_; rintro e w' ⟨rfl, rfl⟩) | (go_at_call 57; refine (monthDays_any _ _ _ (by omega) (by omega)).mono ?_; rintro e w' ⟨rfl, rfl⟩) | (go_at_call 58; refine (numberOf_any _ _ _ _ (by omega) (by omega) (by omega) (by omega) (by omega) (by omega)).mono ?_; rintro e w' ⟨rfl, hb⟩; obtain ⟨hcb, hfb⟩ := bcell hb))
  all_goals go_wp2
  all_goals go_ret
  all_goals exact ⟨ret_bool (by simp [vdate, h1, h2, h3]), (by repeat (first | exact Below.refl _ _ | assumption | refine Below.drew ?_ | refine below_drewN ?_ _ | refine Below.alloc ?_ (by first | omega | (simp; done) | (simp; omega)) _ | refine Below.setCell ?_ (by first | omega | (simp; done) | (simp; omega)) _ | refine Below.trans ?_ (Below.mono (by assumption) (by first | omega | (simp; done) | (simp; omega)))))⟩
theorem impl_ValidDate_any (y m d : Int) (w : World) : Calls Try.prog 30 #[.agg #[.int .i64 y, .int .i64 m, .int .i64 d]] w fun e w' => e = .returned (.bool (vdate y m d)) ∧ Below w.heap.size w w' := by
  cases h1 : inB y 2001 2300
  · exact impl_ValidDate_no1 y m d w h1
  cases h2 : inB m 1 12
  · exact impl_ValidDate_no2 y m d w h1 h2
  cases h3 : inB d 1 (mdays y m)
  · exact impl_ValidDate_no3 y m d w h1 h2 h3
  · exact impl_ValidDate_yes y m d w h1 h2 h3
theorem l03Date_no1 (y m d : Int) (w : World) (h1 : inB y 2001 2300 = false) : Calls Try.prog 55 #[.agg #[.int .i64 y, .int .i64 m, .int .i64 d]] w fun e w' => e = .returned (.bool (vdateA y m d)) ∧ Below w.heap.size w w' := by
  go_enter Try.func55, Try.ntmps55
  go_wp2_with fail
  go_quiet ((go_at_call 45; exact qsame (l00In_bit h1 _)))
  go_wp2
  go_ret
  exact ⟨ret_bool (by simp [vdateA, h1]), (by repeat (first | exact Below.refl _ _ | assumption | refine Below.drew ?_ | refine below_drewN ?_ _ | refine Below.alloc ?_ (by first | omega | (simp; done) | (simp; omega)) _ | refine Below.setCell ?_ (by first | omega | (simp; done) | (simp; omega)) _ | refine Below.trans ?_ (Below.mono (by assumption) (by first | omega | (simp; done) | (simp; omega)))))⟩
theorem l03Date_no2 (y m d : Int) (w : World) (h1 : inB y 2001 2300 = true) (h2 : inB m 1 12 = false) : Calls Try.prog 55 #[.agg #[.int .i64 y, .int .i64 m, .int .i64 d]] w fun e w' => e = .returned (.bool (vdateA y m d)) ∧ Below w.heap.size w w' := by
  go_enter Try.func55, Try.ntmps55
  go_wp2_with fail
  go_quiet (first | (go_at_call 45; with_reducible exact qsame (l00In_bit h1 _)) | (go_at_call 45; with_reducible exact qsame (l00In_bit h2 _)))
  go_wp2
  go_ret
  exact ⟨ret_bool (by simp [vdateA, h2]), (by repeat (first | exact Below.refl _ _ | assumption | refine Below.drew ?_ | refine below_drewN ?_ _ | refine Below.alloc ?_ (by first | omega | (simp; done) | (simp; omega)) _ | refine Below.setCell ?_ (by first | omega | (simp; done) | (simp; omega)) _ | refine Below.trans ?_ (Below.mono (by assumption) (by first | omega | (simp; done) | (simp; omega)))))⟩
set_option maxHeartbeats 1000000 in
theorem l03Date_yes (y m d : Int) (w : World) (h1 : inB y 2001 2300 = true) (h2 : inB m 1 12 = true) : Calls Try.prog 55 #[.agg #[.int .i64 y, .int .i64 m, .int .i64 d]] w fun e w' => e = .returned (.bool (vdateA y m d)) ∧ Below w.heap.size w w' := by
  obtain ⟨y1, y2⟩ := inB_true h1
  obtain ⟨m1, m2⟩ := inB_true h2
  go_enter Try.func55, Try.ntmps55
  go_wp2_with fail
  go_region_held3 (fun w' => w'.cell? ⟨w.heap.size, 0, none⟩ = some (.int .i64 y) ∧ w'.cell? ⟨w.heap.size, 1, none⟩ = some (.int .i64 m) ∧ w'.cell? ⟨w.heap.size, 2, none⟩ = some (.int .i64 d)) (go_keep)
    (first | (go_at_call 45; refine (l00In_any _ _ _ _).mono ?_; rintro e w' ⟨rfl, rfl⟩) | (go_at_call 62; refine (l03Days_any _ _ _ (by omega) (by omega) (by omega) (by omega)).mono ?_; rintro e w' ⟨rfl, hb⟩; obtain ⟨hcb, hfb⟩ := bcell hb))
  all_goals go_wp2
  all_goals go_ret
  all_goals exact ⟨ret_bool (by simp [vdateA, h1, h2]), (by repeat (first | exact Below.refl _ _ | assumption | refine Below.drew ?_ | refine below_drewN ?_ _ | refine Below.alloc ?_ (by first | omega | (simp; done) | (simp; omega)) _ | refine Below.setCell ?_ (by first | omega | (simp; done) | (simp; omega)) _ | refine Below.trans ?_ (Below.mono (by assumption) (by first | omega | (simp; done) | (simp; omega)))))⟩
theorem l03Date_any (y m d : Int) (w : World) : Calls Try.prog 55 #[.agg #[.int .i64 y, .int .i64 m, .int .i64 d]] w fun e w' => e = .returned (.bool (vdateA y m d)) ∧ Below w.heap.size w w' := by
  cases h1 : inB y 2001 2300
  · exact l03Date_no1 y m d w h1
  cases h2 : inB m 1 12
  · exact l03Date_no2 y m d w h1 h2
  · exact l03Date_yes y m d w h1 h2
theorem spec_ValidDate_any (y m d : Int) (w : World) : Calls Try.prog 28 #[.agg #[.int .i64 y, .int .i64 m, .int .i64 d]] w fun e w' => e = .returned (.bool (vdate y m d)) ∧ Below w.heap.size w w' := by
  have e0 : vdate y m d = (vdateA y m d && decide (num y m d ≤ 100000)) := rfl
  cases h1 : vdateA y m d
  · go_enter Try.func28, Try.ntmps28
    go_wp2_with (go_at_call 55; refine (l03Date_any _ _ _ _).mono ?_; rintro e w' ⟨rfl, hb⟩; obtain ⟨hcb, hfb⟩ := bcell hb; have hzb := hb.size; try simp at hzb; try (have hzl := Nat.lt_of_succ_le hzb); try (have hz0 : w.heap.size < w'.heap.size := by omega); try (have hz1 : w.heap.size + 1 < w'.heap.size := by omega); try (have hz2 : w.heap.size + 2 < w'.heap.size := by omega))
    go_ret
    exact ⟨ret_bool (by simp [e0, h1]), (by repeat (first | exact Below.refl _ _ | assumption | refine Below.drew ?_ | refine below_drewN ?_ _ | refine Below.alloc ?_ (by first | omega | (simp; done) | (simp; omega)) _ | refine Below.setCell ?_ (by first | omega | (simp; done) | (simp; omega)) _ | refine Below.trans ?_ (Below.mono (by assumption) (by first | omega | (simp; done) | (simp; omega)))))⟩
  · obtain ⟨a1, a2, a3, a4, a5, a6⟩ := vdateA_true h1
    have E0 := hide e0
    clear e0
    go_enter Try.func28, Try.ntmps28
    go_wp2_with (first | (go_at_call 55; refine (l03Date_any _ _ _ _).mono ?_; rintro e w' ⟨rfl, hb⟩; obtain ⟨hcb, hfb⟩ := bcell hb; have hzb := hb.size; try simp at hzb; try (have hzl := Nat.lt_of_succ_le hzb); try (have hz0 : w.heap.size < w'.heap.size := by omega); try (have hz1 : w.heap.size + 1 < w'.heap.size := by omega); try (have hz2 : w.heap.size + 2 < w'.heap.size := by omega)) | (go_at_call 56; refine (l03Number_any _ _ _ _ (by omega) (by omega) (by omega) (by omega) (by omega) (by omega)).mono ?_; rintro e w' ⟨rfl, hb⟩; obtain ⟨hcb, hfb⟩ := bcell hb; have hzb := hb.size; try simp at hzb; try (have hzl := Nat.lt_of_succ_le hzb); try (have hz0 : w.heap.size < w'.heap.size := by omega); try (have hz1 : w.heap.size + 1 < w'.heap.size := by omega); try (have hz2 : w.heap.size + 2 < w'.heap.size := by omega)))
    go_ret
    exact ⟨ret_bool (by simp [E0.out, h1]), (by repeat (first | exact Below.refl _ _ | assumption | refine Below.drew ?_ | refine below_drewN ?_ _ | refine Below.alloc ?_ (by first | omega | (simp; done) | (simp; omega)) _ | refine Below.setCell ?_ (by first | omega | (simp; done) | (simp; omega)) _ | refine Below.trans ?_ (Below.mono (by assumption) (by first | omega | (simp; done) | (simp; omega)))))⟩
theorem impl_DayNumber_any (y m d : Int) (w : World) : Calls Try.prog 40 #[.agg #[.int .i64 y, .int .i64 m, .int .i64 d]] w fun e w' => e = .returned (.tuple #[.int .i64 (dayNum y m d).1, .int .i64 (dayNum y m d).2]) ∧ Below w.heap.size w w' := by
  cases h1 : vdate y m d
  · go_enter Try.func40, Try.ntmps40
    go_wp2_with (go_at_call 30; refine (impl_ValidDate_any _ _ _ _).mono ?_; rintro e w' ⟨rfl, hb⟩; obtain ⟨hcb, hfb⟩ := bcell hb; have hzb := hb.size; try simp at hzb; try (have hzl := Nat.lt_of_succ_le hzb); try (have hz0 : w.heap.size < w'.heap.size := by omega); try (have hz1 : w.heap.size + 1 < w'.heap.size := by omega); try (have hz2 : w.heap.size + 2 < w'.heap.size := by omega))
    go_ret2
    exact ⟨ret2 (by simp [dayNum, h1]), (by repeat (first | exact Below.refl _ _ | assumption | refine Below.drew ?_ | refine below_drewN ?_ _ | refine Below.alloc ?_ (by first | omega | (simp; done) | (simp; omega)) _ | refine Below.setCell ?_ (by first | omega | (simp; done) | (simp; omega)) _ | refine Below.trans ?_ (Below.mono (by assumption) (by first | omega | (simp; done) | (simp; omega)))))⟩
  · obtain ⟨a1, a2, a3, a4, a5, a6⟩ := vdate_true h1
    go_enter Try.func40, Try.ntmps40
    go_wp2_with (first | (go_at_call 30; refine (impl_ValidDate_any _ _ _ _).mono ?_; rintro e w' ⟨rfl, hb⟩; obtain ⟨hcb, hfb⟩ := bcell hb; have hzb := hb.size; try simp at hzb; try (have hzl := Nat.lt_of_succ_le hzb); try (have hz0 : w.heap.size < w'.heap.size := by omega); try (have hz1 : w.heap.size + 1 < w'.heap.size := by omega); try (have hz2 : w.heap.size + 2 < w'.heap.size := by omega)) | (go_at_call 58; refine (numberOf_any _ _ _ _ (by omega) (by omega) (by omega) (by omega) (by omega) (by omega)).mono ?_; rintro e w' ⟨rfl, hb⟩; obtain ⟨hcb, hfb⟩ := bcell hb; have hzb := hb.size; try simp at hzb; try (have hzl := Nat.lt_of_succ_le hzb); try (have hz0 : w.heap.size < w'.heap.size := by omega); try (have hz1 : w.heap.size + 1 < w'.heap.size := by omega); try (have hz2 : w.heap.size + 2 < w'.heap.size := by omega)))
    go_ret2
    exact ⟨ret2 (by simp [dayNum, h1]), (by repeat (first | exact Below.refl _ _ | assumption | refine Below.drew ?_ | refine below_drewN ?_ _ | refine Below.alloc ?_ (by first | omega | (simp; done) | (simp; omega)) _ | refine Below.setCell ?_ (by first | omega | (simp; done) | (simp; omega)) _ | refine Below.trans ?_ (Below.mono (by assumption) (by first | omega | (simp; done) | (simp; omega)))))⟩
theorem spec_DayNumber_any (y m d : Int) (w : World) : Calls Try.prog 39 #[.agg #[.int .i64 y, .int .i64 m, .int .i64 d]] w fun e w' => e = .returned (.tuple #[.int .i64 (dayNum y m d).1, .int .i64 (dayNum y m d).2]) ∧ Below w.heap.size w w' := by
  cases h1 : vdate y m d
  · go_enter Try.func39, Try.ntmps39
    go_wp2_with (go_at_call 28; refine (spec_ValidDate_any _ _ _ _).mono ?_; rintro e w' ⟨rfl, hb⟩; obtain ⟨hcb, hfb⟩ := bcell hb; have hzb := hb.size; try simp at hzb; try (have hzl := Nat.lt_of_succ_le hzb); try (have hz0 : w.heap.size < w'.heap.size := by omega); try (have hz1 : w.heap.size + 1 < w'.heap.size := by omega); try (have hz2 : w.heap.size + 2 < w'.heap.size := by omega))
    go_ret2
    exact ⟨ret2 (by simp [dayNum, h1]), (by repeat (first | exact Below.refl _ _ | assumption | refine Below.drew ?_ | refine below_drewN ?_ _ | refine Below.alloc ?_ (by first | omega | (simp; done) | (simp; omega)) _ | refine Below.setCell ?_ (by first | omega | (simp; done) | (simp; omega)) _ | refine Below.trans ?_ (Below.mono (by assumption) (by first | omega | (simp; done) | (simp; omega)))))⟩
  · obtain ⟨a1, a2, a3, a4, a5, a6⟩ := vdate_true h1
    go_enter Try.func39, Try.ntmps39
    go_wp2_with (first | (go_at_call 28; refine (spec_ValidDate_any _ _ _ _).mono ?_; rintro e w' ⟨rfl, hb⟩; obtain ⟨hcb, hfb⟩ := bcell hb; have hzb := hb.size; try simp at hzb; try (have hzl := Nat.lt_of_succ_le hzb); try (have hz0 : w.heap.size < w'.heap.size := by omega); try (have hz1 : w.heap.size + 1 < w'.heap.size := by omega); try (have hz2 : w.heap.size + 2 < w'.heap.size := by omega)) | (go_at_call 56; refine (l03Number_any _ _ _ _ (by omega) (by omega) (by omega) (by omega) (by omega) (by omega)).mono ?_; rintro e w' ⟨rfl, hb⟩; obtain ⟨hcb, hfb⟩ := bcell hb; have hzb := hb.size; try simp at hzb; try (have hzl := Nat.lt_of_succ_le hzb); try (have hz0 : w.heap.size < w'.heap.size := by omega); try (have hz1 : w.heap.size + 1 < w'.heap.size := by omega); try (have hz2 : w.heap.size + 2 < w'.heap.size := by omega)))
    go_ret2
    exact ⟨ret2 (by simp [dayNum, h1]), (by repeat (first | exact Below.refl _ _ | assumption | refine Below.drew ?_ | refine below_drewN ?_ _ | refine Below.alloc ?_ (by first | omega | (simp; done) | (simp; omega)) _ | refine Below.setCell ?_ (by first | omega | (simp; done) | (simp; omega)) _ | refine Below.trans ?_ (Below.mono (by assumption) (by first | omega | (simp; done) | (simp; omega)))))⟩
theorem dayB_end : True := trivial
end Go.Proofs.Ytbmjkimlpneidaa
