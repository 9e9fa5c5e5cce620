/-
  Contracts of the program's functions on integers and of the reference's, each pair with one plain value.
-/
import Derived.Test.YtbmjkimlpneidaaNum
import Derived.Test.YtbmjkimlpneidaaPlA
namespace Go.Proofs.Ytbmjkimlpneidaa
open Go.RowKit Pl
set_option linter.unusedVariables false
set_option linter.unusedSimpArgs false
theorem impl_ClockOf_any (t : Int) (w : World) : Calls Try.prog 16 #[.int .i64 t] w fun e w' => e = .returned (.tuple #[.int .i64 (clockOf t).1, .int .i64 (clockOf t).2.1, .int .i64 (clockOf t).2.2]) ∧ w = w' := by
  cases h1 : inB t 0 10000000
  · go_enter Try.func16, Try.ntmps16
    go_wp2_with (go_at_call 44; refine (impl_ValidTime_any _ _).mono ?_; rintro e w' ⟨rfl, rfl⟩)
    go_ret3
    exact ⟨by simp [clockOf, h1], rfl⟩
  · obtain ⟨a1, a2⟩ := inB_true h1
    go_enter Try.func16, Try.ntmps16
    go_wp2_with (go_at_call 44; refine (impl_ValidTime_any _ _).mono ?_; rintro e w' ⟨rfl, rfl⟩)
    go_ret3
    exact ⟨by simp [clockOf, h1], rfl⟩
theorem spec_ClockOf_any (t : Int) (w : World) : Calls Try.prog 15 #[.int .i64 t] w fun e w' => e = .returned (.tuple #[.int .i64 (clockOf t).1, .int .i64 (clockOf t).2.1, .int .i64 (clockOf t).2.2]) ∧ w = w' := by
  cases h1 : inB t 0 10000000
  · go_enter Try.func15, Try.ntmps15
    go_wp2_with (go_at_call 43; refine (spec_l03Time_any _ _).mono ?_; rintro e w' ⟨rfl, rfl⟩)
    go_ret3
    exact ⟨by simp [clockOf, h1], rfl⟩
  · obtain ⟨a1, a2⟩ := inB_true h1
    go_enter Try.func15, Try.ntmps15
    go_wp2_with (go_at_call 43; refine (spec_l03Time_any _ _).mono ?_; rintro e w' ⟨rfl, rfl⟩)
    go_ret3
    exact ⟨by simp [clockOf, h1], rfl⟩
theorem impl_TimeOf_any (d h m : Int) (w : World) : Calls Try.prog 18 #[.int .i64 d, .int .i64 h, .int .i64 m] w fun e w' => e = .returned (.tuple #[.int .i64 (timeOf d h m).1, .int .i64 (timeOf d h m).2]) ∧ w = w' := by
  cases h1 : inB d 0 100000
  · go_enter Try.func18, Try.ntmps18
    go_wp2_with (go_at_call 46; refine (in_any _ _ _ _).mono ?_; rintro e w' ⟨rfl, rfl⟩)
    go_ret2
    exact ⟨by simp [timeOf, h1], rfl⟩
  cases h2 : inB h 0 23
  · go_enter Try.func18, Try.ntmps18
    go_wp2_with (go_at_call 46; refine (in_any _ _ _ _).mono ?_; rintro e w' ⟨rfl, rfl⟩)
    go_ret2
    exact ⟨by simp [timeOf, h2], rfl⟩
  cases h3 : inB m 0 59
  · go_enter Try.func18, Try.ntmps18
    go_wp2_with (go_at_call 46; refine (in_any _ _ _ _).mono ?_; rintro e w' ⟨rfl, rfl⟩)
    go_ret2
    exact ⟨by simp [timeOf, h3], rfl⟩
  obtain ⟨a1, a2⟩ := inB_true h1
  obtain ⟨b1, b2⟩ := inB_true h2
  obtain ⟨c1, c2⟩ := inB_true h3
  obtain ⟨g1, g2, g3⟩ := timeOf_ceil (x := (h * 60 + m) * 10000) (by omega) (by omega)
  by_cases h4 : 10000000 < d * 10000 + -fdiv (-((h * 60 + m) * 10000)) 1440
  all_goals
    go_enter Try.func18, Try.ntmps18
    go_wp2_with (first | (go_at_call 46; refine (in_any _ _ _ _).mono ?_; rintro e w' ⟨rfl, rfl⟩) | (go_at_call 47; refine (ceilDiv_any _ _ _ (by omega) (by omega) (by omega) (by omega)).mono ?_; rintro e w' ⟨rfl, rfl⟩))
    go_ret2
    exact ⟨ret2 (by rw [timeOf, if_pos ⟨h1, h2, h3⟩]; first | (rw [if_pos (by omega)]; simp; omega) | rw [if_neg (by omega)]), rfl⟩
theorem spec_TimeOf_any (d h m : Int) (w : World) : Calls Try.prog 17 #[.int .i64 d, .int .i64 h, .int .i64 m] w fun e w' => e = .returned (.tuple #[.int .i64 (timeOf d h m).1, .int .i64 (timeOf d h m).2]) ∧ w = w' := by
  cases h1 : inB d 0 100000
  · go_enter Try.func17, Try.ntmps17
    go_wp2_with (go_at_call 45; refine (l00In_any _ _ _ _).mono ?_; rintro e w' ⟨rfl, rfl⟩)
    go_ret2
    exact ⟨by simp [timeOf, h1], rfl⟩
  cases h2 : inB h 0 23
  · go_enter Try.func17, Try.ntmps17
    go_wp2_with (go_at_call 45; refine (l00In_any _ _ _ _).mono ?_; rintro e w' ⟨rfl, rfl⟩)
    go_ret2
    exact ⟨by simp [timeOf, h2], rfl⟩
  cases h3 : inB m 0 59
  · go_enter Try.func17, Try.ntmps17
    go_wp2_with (go_at_call 45; refine (l00In_any _ _ _ _).mono ?_; rintro e w' ⟨rfl, rfl⟩)
    go_ret2
    exact ⟨by simp [timeOf, h3], rfl⟩
  obtain ⟨a1, a2⟩ := inB_true h1
  obtain ⟨b1, b2⟩ := inB_true h2
  obtain ⟨c1, c2⟩ := inB_true h3
  cases h4 : inB (d * 10000 + ((60 * h + m) * 10000 + 1439) / 1440) 0 10000000
  all_goals
    go_enter Try.func17, Try.ntmps17
    go_wp2_with (first | (go_at_call 45; refine (l00In_any _ _ _ _).mono ?_; rintro e w' ⟨rfl, rfl⟩) | (go_at_call 43; refine (spec_l03Time_any _ _).mono ?_; rintro e w' ⟨rfl, rfl⟩))
    go_ret2
    refine ⟨ret2 ?_, rfl⟩
    rw [timeOf, if_pos ⟨h1, h2, h3⟩]
    first | rw [if_pos (inB_true h4).2] | rw [if_neg (by have := inB_false h4; omega)]
theorem impl_AscensionApart_any (a b : Int) (w : World) : Calls Try.prog 20 #[.int .i64 a, .int .i64 b] w fun e w' => e = .returned (.tuple #[.int .i64 (apart a b).1, .int .i64 (apart a b).2]) ∧ w = w' := by
  cases h1 : inB a 0 86399
  · go_enter Try.func20, Try.ntmps20
    go_wp2_with (go_at_call 46; refine (in_any _ _ _ _).mono ?_; rintro e w' ⟨rfl, rfl⟩)
    go_ret2
    exact ⟨by simp [apart, h1], rfl⟩
  cases h2 : inB b 0 86399
  · go_enter Try.func20, Try.ntmps20
    go_wp2_with (go_at_call 46; refine (in_any _ _ _ _).mono ?_; rintro e w' ⟨rfl, rfl⟩)
    go_ret2
    exact ⟨by simp [apart, h2], rfl⟩
  obtain ⟨a1, a2⟩ := inB_true h1
  obtain ⟨b1, b2⟩ := inB_true h2
  obtain ⟨c1, c2⟩ := absI_bd (n := a - b) (m := 86399) (by omega) (by omega)
  by_cases h3 : absI (a - b) ≤ 86400 - absI (a - b)
  all_goals
    go_enter Try.func20, Try.ntmps20
    go_wp2_with (first | (go_at_call 46; refine (in_any _ _ _ _).mono ?_; rintro e w' ⟨rfl, rfl⟩) | (go_at_call 50; refine (abs_any _ _ (by omega) (by omega)).mono ?_; rintro e w' ⟨rfl, rfl⟩))
    all_goals go_ret2
    all_goals exact ⟨ret2 (by rw [apart, if_pos ⟨h1, h2⟩, minI]; split <;> simp <;> omega), rfl⟩
theorem l00Min_any (a b : Int) (w : World) : Calls Try.prog 68 #[.int .i64 a, .int .i64 b] w fun e w' => e = .returned (.int .i64 (minI a b)) ∧ w = w' := by
  by_cases h1 : a < b
  all_goals
    go_enter Try.func68, Try.ntmps68
    go_wp2
    go_ret
    exact ⟨ret_int (by unfold minI; split <;> omega), rfl⟩
theorem spec_AscensionApart_any (a b : Int) (w : World) : Calls Try.prog 19 #[.int .i64 a, .int .i64 b] w fun e w' => e = .returned (.tuple #[.int .i64 (apart a b).1, .int .i64 (apart a b).2]) ∧ w = w' := by
  cases h1 : inB a 0 86399
  · go_enter Try.func19, Try.ntmps19
    go_wp2_with (go_at_call 48; refine (spec_l04Ascend_any _ _).mono ?_; rintro e w' ⟨rfl, rfl⟩)
    go_ret2
    exact ⟨by simp [apart, h1], rfl⟩
  cases h2 : inB b 0 86399
  · go_enter Try.func19, Try.ntmps19
    go_wp2_with (go_at_call 48; refine (spec_l04Ascend_any _ _).mono ?_; rintro e w' ⟨rfl, rfl⟩)
    go_ret2
    exact ⟨by simp [apart, h2], rfl⟩
  obtain ⟨a1, a2⟩ := inB_true h1
  obtain ⟨b1, b2⟩ := inB_true h2
  obtain ⟨c1, c2⟩ := absI_bd (n := a - b) (m := 86399) (by omega) (by omega)
  go_enter Try.func19, Try.ntmps19
  go_wp2_with (first | (go_at_call 48; refine (spec_l04Ascend_any _ _).mono ?_; rintro e w' ⟨rfl, rfl⟩) | (go_at_call 67; refine (l02Size_any _ _ (by omega) (by omega)).mono ?_; rintro e w' ⟨rfl, rfl⟩) | (go_at_call 68; refine (l00Min_any _ _ _).mono ?_; rintro e w' ⟨rfl, rfl⟩) | go_in)
  go_ret2
  exact ⟨ret2 (by rw [apart, if_pos ⟨h1, h2⟩]), rfl⟩
theorem impl_RoundFraction_any (n d : Int) (w : World) : Calls Try.prog 23 #[.agg #[.int .i64 n, .int .i64 d]] w fun e w' => e = .returned (.tuple #[.int .i64 (roundF n d).1, .int .i64 (roundF n d).2]) ∧ Below w.heap.size w w' := by
  cases h1 : inB d 1 1000000000
  · go_enter Try.func23, Try.ntmps23
    go_wp2_with (go_at_call 46; refine (in_any _ _ _ _).mono ?_; rintro e w' ⟨rfl, rfl⟩)
    go_ret2
    exact ⟨by simp [roundF, h1], (by repeat (first | exact Below.refl _ _ | assumption | refine Below.drew ?_ | refine below_drewN ?_ _ | refine Below.alloc ?_ (by first | omega | (simp; done) | (simp; omega)) _ | refine Below.setCell ?_ (by first | omega | (simp; done) | (simp; omega)) _ | refine Below.trans ?_ (Below.mono (by assumption) (by first | omega | (simp; done) | (simp; omega)))))⟩
  cases h2 : inB n (-1000000000000000) 1000000000000000
  · go_enter Try.func23, Try.ntmps23
    go_wp2_with (go_at_call 46; refine (in_any _ _ _ _).mono ?_; rintro e w' ⟨rfl, rfl⟩)
    go_ret2
    exact ⟨by simp [roundF, h2], (by repeat (first | exact Below.refl _ _ | assumption | refine Below.drew ?_ | refine below_drewN ?_ _ | refine Below.alloc ?_ (by first | omega | (simp; done) | (simp; omega)) _ | refine Below.setCell ?_ (by first | omega | (simp; done) | (simp; omega)) _ | refine Below.trans ?_ (Below.mono (by assumption) (by first | omega | (simp; done) | (simp; omega)))))⟩
  obtain ⟨a1, a2⟩ := inB_true h1
  obtain ⟨b1, b2⟩ := inB_true h2
  go_enter Try.func23, Try.ntmps23
  go_wp2_with (first | (go_at_call 46; refine (in_any _ _ _ _).mono ?_; rintro e w' ⟨rfl, rfl⟩) | (go_at_call 52; refine (nearest_any _ _ _ (by omega) (by omega) (by omega) (by omega)).mono ?_; rintro e w' ⟨rfl, rfl⟩))
  go_ret2
  exact ⟨ret2 (by rw [roundF, if_pos ⟨h1, h2⟩]), (by repeat (first | exact Below.refl _ _ | assumption | refine Below.drew ?_ | refine below_drewN ?_ _ | refine Below.alloc ?_ (by first | omega | (simp; done) | (simp; omega)) _ | refine Below.setCell ?_ (by first | omega | (simp; done) | (simp; omega)) _ | refine Below.trans ?_ (Below.mono (by assumption) (by first | omega | (simp; done) | (simp; omega)))))⟩
theorem impl_BetweenStars_any (a b p q : Int) (w : World) : Calls Try.prog 25 #[.int .i64 a, .int .i64 b, .int .i64 p, .int .i64 q] w fun e w' => e = .returned (.tuple #[.int .i64 (between a b p q).1, .int .i64 (between a b p q).2]) ∧ w = w' := by
  cases h1 : inB a (-2000) 20000
  · go_enter Try.func25, Try.ntmps25
    go_wp2_with (first | (go_at_call 54; refine (impl_ValidMag_any _ _).mono ?_; rintro e w' ⟨rfl, rfl⟩) | (go_at_call 46; refine (in_any _ _ _ _).mono ?_; rintro e w' ⟨rfl, rfl⟩))
    go_ret2
    exact ⟨by simp [between, h1], rfl⟩
  cases h2 : inB b (-2000) 20000
  · go_enter Try.func25, Try.ntmps25
    go_wp2_with (first | (go_at_call 54; refine (impl_ValidMag_any _ _).mono ?_; rintro e w' ⟨rfl, rfl⟩) | (go_at_call 46; refine (in_any _ _ _ _).mono ?_; rintro e w' ⟨rfl, rfl⟩))
    go_ret2
    exact ⟨by simp [between, h2], rfl⟩
  cases h3 : inB p 0 50
  · go_enter Try.func25, Try.ntmps25
    go_wp2_with (first | (go_at_call 54; refine (impl_ValidMag_any _ _).mono ?_; rintro e w' ⟨rfl, rfl⟩) | (go_at_call 46; refine (in_any _ _ _ _).mono ?_; rintro e w' ⟨rfl, rfl⟩))
    go_ret2
    exact ⟨by simp [between, h3], rfl⟩
  cases h4 : inB q 0 50
  · go_enter Try.func25, Try.ntmps25
    go_wp2_with (first | (go_at_call 54; refine (impl_ValidMag_any _ _).mono ?_; rintro e w' ⟨rfl, rfl⟩) | (go_at_call 46; refine (in_any _ _ _ _).mono ?_; rintro e w' ⟨rfl, rfl⟩))
    go_ret2
    exact ⟨by simp [between, h4], rfl⟩
  obtain ⟨a1, a2⟩ := inB_true h1
  obtain ⟨b1, b2⟩ := inB_true h2
  obtain ⟨c1, c2⟩ := inB_true h3
  obtain ⟨d1, d2⟩ := inB_true h4
  obtain ⟨m1, m2⟩ := mul_bd (x := a) (y := p + q) (X := 20000) (Y := 100) (by omega) (by omega) (by omega) (by omega) (by omega) (by omega)
  obtain ⟨m3, m4⟩ := mul_bd (x := b - a) (y := p) (X := 22000) (Y := 50) (by omega) (by omega) (by omega) (by omega) (by omega) (by omega)
  simp only [Int.reduceMul] at m1 m2 m3 m4
  by_cases h5 : p + q = 0
  · have e1 : (p + q == 0) = true := by simpa using h5
    have H5 := hide h5
    clear h5
    go_enter Try.func25, Try.ntmps25
    go_wp2_with (first | (go_at_call 54; refine (impl_ValidMag_any _ _).mono ?_; rintro e w' ⟨rfl, rfl⟩) | (go_at_call 46; refine (in_any _ _ _ _).mono ?_; rintro e w' ⟨rfl, rfl⟩))
    go_ret2
    exact ⟨ret2 (by rw [between, if_pos ⟨h1, h2, h3, h4⟩, if_pos H5.out]), rfl⟩
  · have e1 : (p + q == 0) = false := by simpa using h5
    have e2 : 0 < p + q := by omega
    go_enter Try.func25, Try.ntmps25
    go_wp2_with (first | (go_at_call 54; refine (impl_ValidMag_any _ _).mono ?_; rintro e w' ⟨rfl, rfl⟩) | (go_at_call 46; refine (in_any _ _ _ _).mono ?_; rintro e w' ⟨rfl, rfl⟩) | (go_at_call 52; refine (nearest_any _ _ _ (by omega) (by omega) (by omega) (by omega)).mono ?_; rintro e w' ⟨rfl, rfl⟩))
    go_ret2
    exact ⟨ret2 (by rw [between, if_pos ⟨h1, h2, h3, h4⟩, if_neg h5]), rfl⟩
theorem impl_BySteps_any (a s n d : Int) (w : World) : Calls Try.prog 27 #[.int .i64 a, .int .i64 s, .agg #[.int .i64 n, .int .i64 d]] w fun e w' => e = .returned (.tuple #[.int .i64 (bySteps a s n d).1, .int .i64 (bySteps a s n d).2]) ∧ Below w.heap.size w w' := by
  cases h1 : inB a (-2000) 20000
  · go_enter Try.func27, Try.ntmps27
    go_wp2_with (first | (go_at_call 54; refine (impl_ValidMag_any _ _).mono ?_; rintro e w' ⟨rfl, rfl⟩) | (go_at_call 46; refine (in_any _ _ _ _).mono ?_; rintro e w' ⟨rfl, rfl⟩))
    go_ret2
    exact ⟨by simp [bySteps, h1], (by repeat (first | exact Below.refl _ _ | assumption | refine Below.drew ?_ | refine below_drewN ?_ _ | refine Below.alloc ?_ (by first | omega | (simp; done) | (simp; omega)) _ | refine Below.setCell ?_ (by first | omega | (simp; done) | (simp; omega)) _ | refine Below.trans ?_ (Below.mono (by assumption) (by first | omega | (simp; done) | (simp; omega)))))⟩
  cases h2 : inB s (-50) 50
  · go_enter Try.func27, Try.ntmps27
    go_wp2_with (first | (go_at_call 54; refine (impl_ValidMag_any _ _).mono ?_; rintro e w' ⟨rfl, rfl⟩) | (go_at_call 46; refine (in_any _ _ _ _).mono ?_; rintro e w' ⟨rfl, rfl⟩))
    go_ret2
    exact ⟨by simp [bySteps, h2], (by repeat (first | exact Below.refl _ _ | assumption | refine Below.drew ?_ | refine below_drewN ?_ _ | refine Below.alloc ?_ (by first | omega | (simp; done) | (simp; omega)) _ | refine Below.setCell ?_ (by first | omega | (simp; done) | (simp; omega)) _ | refine Below.trans ?_ (Below.mono (by assumption) (by first | omega | (simp; done) | (simp; omega)))))⟩
  cases h3 : inB n (-1000000) 1000000
  · go_enter Try.func27, Try.ntmps27
    go_wp2_with (first | (go_at_call 54; refine (impl_ValidMag_any _ _).mono ?_; rintro e w' ⟨rfl, rfl⟩) | (go_at_call 46; refine (in_any _ _ _ _).mono ?_; rintro e w' ⟨rfl, rfl⟩))
    go_ret2
    exact ⟨by simp [bySteps, h3], (by repeat (first | exact Below.refl _ _ | assumption | refine Below.drew ?_ | refine below_drewN ?_ _ | refine Below.alloc ?_ (by first | omega | (simp; done) | (simp; omega)) _ | refine Below.setCell ?_ (by first | omega | (simp; done) | (simp; omega)) _ | refine Below.trans ?_ (Below.mono (by assumption) (by first | omega | (simp; done) | (simp; omega)))))⟩
  cases h4 : inB d 1 1000
  · go_enter Try.func27, Try.ntmps27
    go_wp2_with (first | (go_at_call 54; refine (impl_ValidMag_any _ _).mono ?_; rintro e w' ⟨rfl, rfl⟩) | (go_at_call 46; refine (in_any _ _ _ _).mono ?_; rintro e w' ⟨rfl, rfl⟩))
    go_ret2
    exact ⟨by simp [bySteps, h4], (by repeat (first | exact Below.refl _ _ | assumption | refine Below.drew ?_ | refine below_drewN ?_ _ | refine Below.alloc ?_ (by first | omega | (simp; done) | (simp; omega)) _ | refine Below.setCell ?_ (by first | omega | (simp; done) | (simp; omega)) _ | refine Below.trans ?_ (Below.mono (by assumption) (by first | omega | (simp; done) | (simp; omega)))))⟩
  obtain ⟨a1, a2⟩ := inB_true h1
  obtain ⟨b1, b2⟩ := inB_true h2
  obtain ⟨c1, c2⟩ := inB_true h3
  obtain ⟨d1, d2⟩ := inB_true h4
  obtain ⟨m1, m2⟩ := mul_bd (x := a) (y := d) (X := 20000) (Y := 1000) (by omega) (by omega) (by omega) (by omega) (by omega) (by omega)
  obtain ⟨m3, m4⟩ := mul_bd (x := s) (y := n) (X := 50) (Y := 1000000) (by omega) (by omega) (by omega) (by omega) (by omega) (by omega)
  simp only [Int.reduceMul] at m1 m2 m3 m4
  cases h5 : inB (near (a * d + s * n) d) (-2000) 20000
  all_goals
    go_enter Try.func27, Try.ntmps27
    go_wp2_with (first | (go_at_call 54; refine (impl_ValidMag_any _ _).mono ?_; rintro e w' ⟨rfl, rfl⟩) | (go_at_call 46; refine (in_any _ _ _ _).mono ?_; rintro e w' ⟨rfl, rfl⟩) | (go_at_call 52; refine (nearest_any _ _ _ (by omega) (by omega) (by omega) (by omega)).mono ?_; rintro e w' ⟨rfl, rfl⟩))
    go_ret2
    exact ⟨ret2 (by simp [bySteps, h1, h2, h3, h4, h5]), (by repeat (first | exact Below.refl _ _ | assumption | refine Below.drew ?_ | refine below_drewN ?_ _ | refine Below.alloc ?_ (by first | omega | (simp; done) | (simp; omega)) _ | refine Below.setCell ?_ (by first | omega | (simp; done) | (simp; omega)) _ | refine Below.trans ?_ (Below.mono (by assumption) (by first | omega | (simp; done) | (simp; omega)))))⟩
theorem spec_RoundFraction_any (n d : Int) (w : World) : Calls Try.prog 21 #[.agg #[.int .i64 n, .int .i64 d]] w fun e w' => e = .returned (.tuple #[.int .i64 (roundF n d).1, .int .i64 (roundF n d).2]) ∧ Below w.heap.size w w' := by
  cases h1 : inB d 1 1000000000
  · go_enter Try.func21, Try.ntmps21
    go_wp2_with (go_at_call 45; refine (l00In_any _ _ _ _).mono ?_; rintro e w' ⟨rfl, rfl⟩)
    go_ret2
    exact ⟨by simp [roundF, h1], (by repeat (first | exact Below.refl _ _ | assumption | refine Below.drew ?_ | refine below_drewN ?_ _ | refine Below.alloc ?_ (by first | omega | (simp; done) | (simp; omega)) _ | refine Below.setCell ?_ (by first | omega | (simp; done) | (simp; omega)) _ | refine Below.trans ?_ (Below.mono (by assumption) (by first | omega | (simp; done) | (simp; omega)))))⟩
  cases h2 : inB n (-1000000000000000) 1000000000000000
  · go_enter Try.func21, Try.ntmps21
    go_wp2_with (go_at_call 45; refine (l00In_any _ _ _ _).mono ?_; rintro e w' ⟨rfl, rfl⟩)
    go_ret2
    exact ⟨by simp [roundF, h2], (by repeat (first | exact Below.refl _ _ | assumption | refine Below.drew ?_ | refine below_drewN ?_ _ | refine Below.alloc ?_ (by first | omega | (simp; done) | (simp; omega)) _ | refine Below.setCell ?_ (by first | omega | (simp; done) | (simp; omega)) _ | refine Below.trans ?_ (Below.mono (by assumption) (by first | omega | (simp; done) | (simp; omega)))))⟩
  obtain ⟨a1, a2⟩ := inB_true h1
  obtain ⟨b1, b2⟩ := inB_true h2
  go_enter Try.func21, Try.ntmps21
  go_wp2_with (first | (go_at_call 45; refine (l00In_any _ _ _ _).mono ?_; rintro e w' ⟨rfl, rfl⟩) | (go_at_call 51; refine (l02Round_any _ _ _ (by omega) (by omega) (by omega) (by omega)).mono ?_; rintro e w' ⟨rfl, rfl⟩))
  go_ret2
  exact ⟨ret2 (by rw [roundF, if_pos ⟨h1, h2⟩]), (by repeat (first | exact Below.refl _ _ | assumption | refine Below.drew ?_ | refine below_drewN ?_ _ | refine Below.alloc ?_ (by first | omega | (simp; done) | (simp; omega)) _ | refine Below.setCell ?_ (by first | omega | (simp; done) | (simp; omega)) _ | refine Below.trans ?_ (Below.mono (by assumption) (by first | omega | (simp; done) | (simp; omega)))))⟩
theorem spec_BetweenStars_any (a b p q : Int) (w : World) : Calls Try.prog 24 #[.int .i64 a, .int .i64 b, .int .i64 p, .int .i64 q] w fun e w' => e = .returned (.tuple #[.int .i64 (between a b p q).1, .int .i64 (between a b p q).2]) ∧ w = w' := by
  cases h1 : inB a (-2000) 20000
  · go_enter Try.func24, Try.ntmps24
    go_wp2_with (first | (go_at_call 53; refine (spec_l02Mag_any _ _).mono ?_; rintro e w' ⟨rfl, rfl⟩) | (go_at_call 45; refine (l00In_any _ _ _ _).mono ?_; rintro e w' ⟨rfl, rfl⟩))
    go_ret2
    exact ⟨by simp [between, h1], rfl⟩
  cases h2 : inB b (-2000) 20000
  · go_enter Try.func24, Try.ntmps24
    go_wp2_with (first | (go_at_call 53; refine (spec_l02Mag_any _ _).mono ?_; rintro e w' ⟨rfl, rfl⟩) | (go_at_call 45; refine (l00In_any _ _ _ _).mono ?_; rintro e w' ⟨rfl, rfl⟩))
    go_ret2
    exact ⟨by simp [between, h2], rfl⟩
  cases h3 : inB p 0 50
  · go_enter Try.func24, Try.ntmps24
    go_wp2_with (first | (go_at_call 53; refine (spec_l02Mag_any _ _).mono ?_; rintro e w' ⟨rfl, rfl⟩) | (go_at_call 45; refine (l00In_any _ _ _ _).mono ?_; rintro e w' ⟨rfl, rfl⟩))
    go_ret2
    exact ⟨by simp [between, h3], rfl⟩
  cases h4 : inB q 0 50
  · go_enter Try.func24, Try.ntmps24
    go_wp2_with (first | (go_at_call 53; refine (spec_l02Mag_any _ _).mono ?_; rintro e w' ⟨rfl, rfl⟩) | (go_at_call 45; refine (l00In_any _ _ _ _).mono ?_; rintro e w' ⟨rfl, rfl⟩))
    go_ret2
    exact ⟨by simp [between, h4], rfl⟩
  obtain ⟨a1, a2⟩ := inB_true h1
  obtain ⟨b1, b2⟩ := inB_true h2
  obtain ⟨c1, c2⟩ := inB_true h3
  obtain ⟨d1, d2⟩ := inB_true h4
  obtain ⟨m1, m2⟩ := mul_bd (x := a) (y := p + q) (X := 20000) (Y := 100) (by omega) (by omega) (by omega) (by omega) (by omega) (by omega)
  obtain ⟨m3, m4⟩ := mul_bd (x := b - a) (y := p) (X := 22000) (Y := 50) (by omega) (by omega) (by omega) (by omega) (by omega) (by omega)
  simp only [Int.reduceMul] at m1 m2 m3 m4
  by_cases h5 : p + q = 0
  · have e1 : (p + q == 0) = true := by simpa using h5
    have H5 := hide h5
    clear h5
    go_enter Try.func24, Try.ntmps24
    go_wp2_with (first | (go_at_call 53; refine (spec_l02Mag_any _ _).mono ?_; rintro e w' ⟨rfl, rfl⟩) | (go_at_call 45; refine (l00In_any _ _ _ _).mono ?_; rintro e w' ⟨rfl, rfl⟩))
    go_ret2
    exact ⟨ret2 (by rw [between, if_pos ⟨h1, h2, h3, h4⟩, if_pos H5.out]), rfl⟩
  · have e1 : (p + q == 0) = false := by simpa using h5
    have e2 : 0 < p + q := by omega
    go_enter Try.func24, Try.ntmps24
    go_wp2_with (first | (go_at_call 53; refine (spec_l02Mag_any _ _).mono ?_; rintro e w' ⟨rfl, rfl⟩) | (go_at_call 45; refine (l00In_any _ _ _ _).mono ?_; rintro e w' ⟨rfl, rfl⟩) | (go_at_call 51; refine (l02Round_any _ _ _ (by omega) (by omega) (by omega) (by omega)).mono ?_; rintro e w' ⟨rfl, rfl⟩))
    go_ret2
    exact ⟨ret2 (by rw [between, if_pos ⟨h1, h2, h3, h4⟩, if_neg h5]), rfl⟩
theorem spec_BySteps_any (a s n d : Int) (w : World) : Calls Try.prog 26 #[.int .i64 a, .int .i64 s, .agg #[.int .i64 n, .int .i64 d]] w fun e w' => e = .returned (.tuple #[.int .i64 (bySteps a s n d).1, .int .i64 (bySteps a s n d).2]) ∧ Below w.heap.size w w' := by
  cases h1 : inB a (-2000) 20000
  · go_enter Try.func26, Try.ntmps26
    go_wp2_with (first | (go_at_call 53; refine (spec_l02Mag_any _ _).mono ?_; rintro e w' ⟨rfl, rfl⟩) | (go_at_call 45; refine (l00In_any _ _ _ _).mono ?_; rintro e w' ⟨rfl, rfl⟩))
    go_ret2
    exact ⟨by simp [bySteps, h1], (by repeat (first | exact Below.refl _ _ | assumption | refine Below.drew ?_ | refine below_drewN ?_ _ | refine Below.alloc ?_ (by first | omega | (simp; done) | (simp; omega)) _ | refine Below.setCell ?_ (by first | omega | (simp; done) | (simp; omega)) _ | refine Below.trans ?_ (Below.mono (by assumption) (by first | omega | (simp; done) | (simp; omega)))))⟩
  cases h2 : inB s (-50) 50
  · go_enter Try.func26, Try.ntmps26
    go_wp2_with (first | (go_at_call 53; refine (spec_l02Mag_any _ _).mono ?_; rintro e w' ⟨rfl, rfl⟩) | (go_at_call 45; refine (l00In_any _ _ _ _).mono ?_; rintro e w' ⟨rfl, rfl⟩))
    go_ret2
    exact ⟨by simp [bySteps, h2], (by repeat (first | exact Below.refl _ _ | assumption | refine Below.drew ?_ | refine below_drewN ?_ _ | refine Below.alloc ?_ (by first | omega | (simp; done) | (simp; omega)) _ | refine Below.setCell ?_ (by first | omega | (simp; done) | (simp; omega)) _ | refine Below.trans ?_ (Below.mono (by assumption) (by first | omega | (simp; done) | (simp; omega)))))⟩
  cases h3 : inB n (-1000000) 1000000
  · go_enter Try.func26, Try.ntmps26
    go_wp2_with (first | (go_at_call 53; refine (spec_l02Mag_any _ _).mono ?_; rintro e w' ⟨rfl, rfl⟩) | (go_at_call 45; refine (l00In_any _ _ _ _).mono ?_; rintro e w' ⟨rfl, rfl⟩))
    go_ret2
    exact ⟨by simp [bySteps, h3], (by repeat (first | exact Below.refl _ _ | assumption | refine Below.drew ?_ | refine below_drewN ?_ _ | refine Below.alloc ?_ (by first | omega | (simp; done) | (simp; omega)) _ | refine Below.setCell ?_ (by first | omega | (simp; done) | (simp; omega)) _ | refine Below.trans ?_ (Below.mono (by assumption) (by first | omega | (simp; done) | (simp; omega)))))⟩
  cases h4 : inB d 1 1000
  · go_enter Try.func26, Try.ntmps26
    go_wp2_with (first | (go_at_call 53; refine (spec_l02Mag_any _ _).mono ?_; rintro e w' ⟨rfl, rfl⟩) | (go_at_call 45; refine (l00In_any _ _ _ _).mono ?_; rintro e w' ⟨rfl, rfl⟩))
    go_ret2
    exact ⟨by simp [bySteps, h4], (by repeat (first | exact Below.refl _ _ | assumption | refine Below.drew ?_ | refine below_drewN ?_ _ | refine Below.alloc ?_ (by first | omega | (simp; done) | (simp; omega)) _ | refine Below.setCell ?_ (by first | omega | (simp; done) | (simp; omega)) _ | refine Below.trans ?_ (Below.mono (by assumption) (by first | omega | (simp; done) | (simp; omega)))))⟩
  obtain ⟨a1, a2⟩ := inB_true h1
  obtain ⟨b1, b2⟩ := inB_true h2
  obtain ⟨c1, c2⟩ := inB_true h3
  obtain ⟨d1, d2⟩ := inB_true h4
  obtain ⟨m1, m2⟩ := mul_bd (x := a) (y := d) (X := 20000) (Y := 1000) (by omega) (by omega) (by omega) (by omega) (by omega) (by omega)
  obtain ⟨m3, m4⟩ := mul_bd (x := s) (y := n) (X := 50) (Y := 1000000) (by omega) (by omega) (by omega) (by omega) (by omega) (by omega)
  simp only [Int.reduceMul] at m1 m2 m3 m4
  cases h5 : inB (near (a * d + s * n) d) (-2000) 20000
  all_goals
    go_enter Try.func26, Try.ntmps26
    go_wp2_with (first | (go_at_call 53; refine (spec_l02Mag_any _ _).mono ?_; rintro e w' ⟨rfl, rfl⟩) | (go_at_call 45; refine (l00In_any _ _ _ _).mono ?_; rintro e w' ⟨rfl, rfl⟩) | (go_at_call 51; refine (l02Round_any _ _ _ (by omega) (by omega) (by omega) (by omega)).mono ?_; rintro e w' ⟨rfl, rfl⟩))
    go_ret2
    exact ⟨ret2 (by simp [bySteps, h1, h2, h3, h4, h5]), (by repeat (first | exact Below.refl _ _ | assumption | refine Below.drew ?_ | refine below_drewN ?_ _ | refine Below.alloc ?_ (by first | omega | (simp; done) | (simp; omega)) _ | refine Below.setCell ?_ (by first | omega | (simp; done) | (simp; omega)) _ | refine Below.trans ?_ (Below.mono (by assumption) (by first | omega | (simp; done) | (simp; omega)))))⟩
theorem impl_HoursBetween_any (a b : Int) (w : World) : Calls Try.prog 32 #[.int .i64 a, .int .i64 b] w fun e w' => e = .returned (.tuple #[.agg #[.int .i64 (hours a b).1, .int .i64 (hours a b).2.1], .int .i64 (hours a b).2.2]) ∧ Below w.heap.size w w' := by
  cases h1 : inB a 0 10000000
  · go_enter Try.func32, Try.ntmps32
    go_wp2_with (go_at_call 44; refine (impl_ValidTime_any _ _).mono ?_; rintro e w' ⟨rfl, rfl⟩)
    exact bodyPost_ret (v := .tuple #[.agg #[.int .i64 0, .int .i64 0], .int .i64 2]) (by simp [results, Try.results32, go_sem]) rfl ⟨by simp [hours, h1], (by repeat (first | exact Below.refl _ _ | assumption | refine Below.drew ?_ | refine below_drewN ?_ _ | refine Below.alloc ?_ (by first | omega | (simp; done) | (simp; omega)) _ | refine Below.setCell ?_ (by first | omega | (simp; done) | (simp; omega)) _ | refine Below.trans ?_ (Below.mono (by assumption) (by first | omega | (simp; done) | (simp; omega)))))⟩
  cases h2 : inB b 0 10000000
  · go_enter Try.func32, Try.ntmps32
    go_wp2_with (go_at_call 44; refine (impl_ValidTime_any _ _).mono ?_; rintro e w' ⟨rfl, rfl⟩)
    exact bodyPost_ret (v := .tuple #[.agg #[.int .i64 0, .int .i64 0], .int .i64 2]) (by simp [results, Try.results32, go_sem]) rfl ⟨by simp [hours, h2], (by repeat (first | exact Below.refl _ _ | assumption | refine Below.drew ?_ | refine below_drewN ?_ _ | refine Below.alloc ?_ (by first | omega | (simp; done) | (simp; omega)) _ | refine Below.setCell ?_ (by first | omega | (simp; done) | (simp; omega)) _ | refine Below.trans ?_ (Below.mono (by assumption) (by first | omega | (simp; done) | (simp; omega)))))⟩
  obtain ⟨a0, b0⟩ := inB_true h1
  obtain ⟨a1, b1⟩ := inB_true h2
  go_enter Try.func32, Try.ntmps32
  go_wp2_with (first | (go_at_call 44; refine (impl_ValidTime_any _ _).mono ?_; rintro e w' ⟨rfl, rfl⟩) | (go_at_call 60; refine (lowest_any _ _ _ (by omega) (by omega) (by omega) (by omega)).mono ?_; rintro e w' ⟨rfl, hb⟩; obtain ⟨hcb, hfb⟩ := bcell hb; have hzb := hb.size; try simp at hzb; try (have hz0 : w.heap.size < w'.heap.size := by omega); try (have hz1 : w.heap.size + 1 < w'.heap.size := by omega); try (have hz2 : w.heap.size + 2 < w'.heap.size := by omega)))
  exact bodyPost_ret (v := .tuple #[.agg #[.int .i64 (lowN (24 * (b - a)) 10000), .int .i64 (lowD (24 * (b - a)) 10000)], .int .i64 0]) (by simp [results, Try.results32, go_sem, hcb, hz0]) rfl ⟨by simp [hours, h1, h2], (by repeat (first | exact Below.refl _ _ | assumption | refine Below.drew ?_ | refine below_drewN ?_ _ | refine Below.alloc ?_ (by first | omega | (simp; done) | (simp; omega)) _ | refine Below.setCell ?_ (by first | omega | (simp; done) | (simp; omega)) _ | refine Below.trans ?_ (Below.mono (by assumption) (by first | omega | (simp; done) | (simp; omega)))))⟩
theorem impl_StepSize_any (a b s : Int) (w : World) : Calls Try.prog 35 #[.int .i64 a, .int .i64 b, .int .i64 s] w fun e w' => e = .returned (.tuple #[.agg #[.int .i64 (stepSize a b s).1, .int .i64 (stepSize a b s).2.1], .int .i64 (stepSize a b s).2.2]) ∧ Below w.heap.size w w' := by
  cases h1 : inB a (-2000) 20000
  · go_enter Try.func35, Try.ntmps35
    go_wp2_with (first | (go_at_call 54; refine (impl_ValidMag_any _ _).mono ?_; rintro e w' ⟨rfl, rfl⟩) | (go_at_call 46; refine (in_any _ _ _ _).mono ?_; rintro e w' ⟨rfl, rfl⟩))
    exact bodyPost_ret (v := .tuple #[.agg #[.int .i64 0, .int .i64 0], .int .i64 2]) (by simp [results, Try.results35, go_sem]) rfl ⟨by simp [stepSize, h1], (by repeat (first | exact Below.refl _ _ | assumption | refine Below.drew ?_ | refine below_drewN ?_ _ | refine Below.alloc ?_ (by first | omega | (simp; done) | (simp; omega)) _ | refine Below.setCell ?_ (by first | omega | (simp; done) | (simp; omega)) _ | refine Below.trans ?_ (Below.mono (by assumption) (by first | omega | (simp; done) | (simp; omega)))))⟩
  cases h2 : inB b (-2000) 20000
  · go_enter Try.func35, Try.ntmps35
    go_wp2_with (first | (go_at_call 54; refine (impl_ValidMag_any _ _).mono ?_; rintro e w' ⟨rfl, rfl⟩) | (go_at_call 46; refine (in_any _ _ _ _).mono ?_; rintro e w' ⟨rfl, rfl⟩))
    exact bodyPost_ret (v := .tuple #[.agg #[.int .i64 0, .int .i64 0], .int .i64 2]) (by simp [results, Try.results35, go_sem]) rfl ⟨by simp [stepSize, h2], (by repeat (first | exact Below.refl _ _ | assumption | refine Below.drew ?_ | refine below_drewN ?_ _ | refine Below.alloc ?_ (by first | omega | (simp; done) | (simp; omega)) _ | refine Below.setCell ?_ (by first | omega | (simp; done) | (simp; omega)) _ | refine Below.trans ?_ (Below.mono (by assumption) (by first | omega | (simp; done) | (simp; omega)))))⟩
  cases h3 : inB s 1 50
  · go_enter Try.func35, Try.ntmps35
    go_wp2_with (first | (go_at_call 54; refine (impl_ValidMag_any _ _).mono ?_; rintro e w' ⟨rfl, rfl⟩) | (go_at_call 46; refine (in_any _ _ _ _).mono ?_; rintro e w' ⟨rfl, rfl⟩))
    exact bodyPost_ret (v := .tuple #[.agg #[.int .i64 0, .int .i64 0], .int .i64 2]) (by simp [results, Try.results35, go_sem]) rfl ⟨by simp [stepSize, h3], (by repeat (first | exact Below.refl _ _ | assumption | refine Below.drew ?_ | refine below_drewN ?_ _ | refine Below.alloc ?_ (by first | omega | (simp; done) | (simp; omega)) _ | refine Below.setCell ?_ (by first | omega | (simp; done) | (simp; omega)) _ | refine Below.trans ?_ (Below.mono (by assumption) (by first | omega | (simp; done) | (simp; omega)))))⟩
  obtain ⟨a0, b0⟩ := inB_true h1
  obtain ⟨a1, b1⟩ := inB_true h2
  obtain ⟨a2, b2⟩ := inB_true h3
  go_enter Try.func35, Try.ntmps35
  go_wp2_with (first | (first | (go_at_call 54; refine (impl_ValidMag_any _ _).mono ?_; rintro e w' ⟨rfl, rfl⟩) | (go_at_call 46; refine (in_any _ _ _ _).mono ?_; rintro e w' ⟨rfl, rfl⟩)) | (go_at_call 60; refine (lowest_any _ _ _ (by omega) (by omega) (by omega) (by omega)).mono ?_; rintro e w' ⟨rfl, hb⟩; obtain ⟨hcb, hfb⟩ := bcell hb; have hzb := hb.size; try simp at hzb; try (have hz0 : w.heap.size < w'.heap.size := by omega); try (have hz1 : w.heap.size + 1 < w'.heap.size := by omega); try (have hz2 : w.heap.size + 2 < w'.heap.size := by omega)))
  exact bodyPost_ret (v := .tuple #[.agg #[.int .i64 (lowN (b - a) s), .int .i64 (lowD (b - a) s)], .int .i64 0]) (by simp [results, Try.results35, go_sem, hcb, hz0]) rfl ⟨by simp [stepSize, h1, h2, h3], (by repeat (first | exact Below.refl _ _ | assumption | refine Below.drew ?_ | refine below_drewN ?_ _ | refine Below.alloc ?_ (by first | omega | (simp; done) | (simp; omega)) _ | refine Below.setCell ?_ (by first | omega | (simp; done) | (simp; omega)) _ | refine Below.trans ?_ (Below.mono (by assumption) (by first | omega | (simp; done) | (simp; omega)))))⟩
theorem spec_HoursBetween_any (a b : Int) (w : World) : Calls Try.prog 31 #[.int .i64 a, .int .i64 b] w fun e w' => e = .returned (.tuple #[.agg #[.int .i64 (hours a b).1, .int .i64 (hours a b).2.1], .int .i64 (hours a b).2.2]) ∧ Below w.heap.size w w' := by
  cases h1 : inB a 0 10000000
  · go_enter Try.func31, Try.ntmps31
    go_wp2_with (go_at_call 43; refine (spec_l03Time_any _ _).mono ?_; rintro e w' ⟨rfl, rfl⟩)
    exact bodyPost_ret (v := .tuple #[.agg #[.int .i64 0, .int .i64 0], .int .i64 2]) (by simp [results, Try.results31, go_sem]) rfl ⟨by simp [hours, h1], (by repeat (first | exact Below.refl _ _ | assumption | refine Below.drew ?_ | refine below_drewN ?_ _ | refine Below.alloc ?_ (by first | omega | (simp; done) | (simp; omega)) _ | refine Below.setCell ?_ (by first | omega | (simp; done) | (simp; omega)) _ | refine Below.trans ?_ (Below.mono (by assumption) (by first | omega | (simp; done) | (simp; omega)))))⟩
  cases h2 : inB b 0 10000000
  · go_enter Try.func31, Try.ntmps31
    go_wp2_with (go_at_call 43; refine (spec_l03Time_any _ _).mono ?_; rintro e w' ⟨rfl, rfl⟩)
    exact bodyPost_ret (v := .tuple #[.agg #[.int .i64 0, .int .i64 0], .int .i64 2]) (by simp [results, Try.results31, go_sem]) rfl ⟨by simp [hours, h2], (by repeat (first | exact Below.refl _ _ | assumption | refine Below.drew ?_ | refine below_drewN ?_ _ | refine Below.alloc ?_ (by first | omega | (simp; done) | (simp; omega)) _ | refine Below.setCell ?_ (by first | omega | (simp; done) | (simp; omega)) _ | refine Below.trans ?_ (Below.mono (by assumption) (by first | omega | (simp; done) | (simp; omega)))))⟩
  obtain ⟨a0, b0⟩ := inB_true h1
  obtain ⟨a1, b1⟩ := inB_true h2
  go_enter Try.func31, Try.ntmps31
  go_wp2_with (first | (go_at_call 43; refine (spec_l03Time_any _ _).mono ?_; rintro e w' ⟨rfl, rfl⟩) | (go_at_call 59; refine (l02Make_any _ _ _ (by omega) (by omega) (by omega) (by omega)).mono ?_; rintro e w' ⟨rfl, hb⟩; obtain ⟨hcb, hfb⟩ := bcell hb; have hzb := hb.size; try simp at hzb; try (have hz0 : w.heap.size < w'.heap.size := by omega); try (have hz1 : w.heap.size + 1 < w'.heap.size := by omega); try (have hz2 : w.heap.size + 2 < w'.heap.size := by omega)))
  exact bodyPost_ret (v := .tuple #[.agg #[.int .i64 (lowN (24 * (b - a)) 10000), .int .i64 (lowD (24 * (b - a)) 10000)], .int .i64 0]) (by simp [results, Try.results31, go_sem, hcb, hz0]) rfl ⟨by simp [hours, h1, h2], (by repeat (first | exact Below.refl _ _ | assumption | refine Below.drew ?_ | refine below_drewN ?_ _ | refine Below.alloc ?_ (by first | omega | (simp; done) | (simp; omega)) _ | refine Below.setCell ?_ (by first | omega | (simp; done) | (simp; omega)) _ | refine Below.trans ?_ (Below.mono (by assumption) (by first | omega | (simp; done) | (simp; omega)))))⟩
theorem spec_StepSize_any (a b s : Int) (w : World) : Calls Try.prog 34 #[.int .i64 a, .int .i64 b, .int .i64 s] w fun e w' => e = .returned (.tuple #[.agg #[.int .i64 (stepSize a b s).1, .int .i64 (stepSize a b s).2.1], .int .i64 (stepSize a b s).2.2]) ∧ Below w.heap.size w w' := by
  cases h1 : inB a (-2000) 20000
  · go_enter Try.func34, Try.ntmps34
    go_wp2_with (first | (go_at_call 53; refine (spec_l02Mag_any _ _).mono ?_; rintro e w' ⟨rfl, rfl⟩) | (go_at_call 45; refine (l00In_any _ _ _ _).mono ?_; rintro e w' ⟨rfl, rfl⟩))
    exact bodyPost_ret (v := .tuple #[.agg #[.int .i64 0, .int .i64 0], .int .i64 2]) (by simp [results, Try.results34, go_sem]) rfl ⟨by simp [stepSize, h1], (by repeat (first | exact Below.refl _ _ | assumption | refine Below.drew ?_ | refine below_drewN ?_ _ | refine Below.alloc ?_ (by first | omega | (simp; done) | (simp; omega)) _ | refine Below.setCell ?_ (by first | omega | (simp; done) | (simp; omega)) _ | refine Below.trans ?_ (Below.mono (by assumption) (by first | omega | (simp; done) | (simp; omega)))))⟩
  cases h2 : inB b (-2000) 20000
  · go_enter Try.func34, Try.ntmps34
    go_wp2_with (first | (go_at_call 53; refine (spec_l02Mag_any _ _).mono ?_; rintro e w' ⟨rfl, rfl⟩) | (go_at_call 45; refine (l00In_any _ _ _ _).mono ?_; rintro e w' ⟨rfl, rfl⟩))
    exact bodyPost_ret (v := .tuple #[.agg #[.int .i64 0, .int .i64 0], .int .i64 2]) (by simp [results, Try.results34, go_sem]) rfl ⟨by simp [stepSize, h2], (by repeat (first | exact Below.refl _ _ | assumption | refine Below.drew ?_ | refine below_drewN ?_ _ | refine Below.alloc ?_ (by first | omega | (simp; done) | (simp; omega)) _ | refine Below.setCell ?_ (by first | omega | (simp; done) | (simp; omega)) _ | refine Below.trans ?_ (Below.mono (by assumption) (by first | omega | (simp; done) | (simp; omega)))))⟩
  cases h3 : inB s 1 50
  · go_enter Try.func34, Try.ntmps34
    go_wp2_with (first | (go_at_call 53; refine (spec_l02Mag_any _ _).mono ?_; rintro e w' ⟨rfl, rfl⟩) | (go_at_call 45; refine (l00In_any _ _ _ _).mono ?_; rintro e w' ⟨rfl, rfl⟩))
    exact bodyPost_ret (v := .tuple #[.agg #[.int .i64 0, .int .i64 0], .int .i64 2]) (by simp [results, Try.results34, go_sem]) rfl ⟨by simp [stepSize, h3], (by repeat (first | exact Below.refl _ _ | assumption | refine Below.drew ?_ | refine below_drewN ?_ _ | refine Below.alloc ?_ (by first | omega | (simp; done) | (simp; omega)) _ | refine Below.setCell ?_ (by first | omega | (simp; done) | (simp; omega)) _ | refine Below.trans ?_ (Below.mono (by assumption) (by first | omega | (simp; done) | (simp; omega)))))⟩
  obtain ⟨a0, b0⟩ := inB_true h1
  obtain ⟨a1, b1⟩ := inB_true h2
  obtain ⟨a2, b2⟩ := inB_true h3
  go_enter Try.func34, Try.ntmps34
  go_wp2_with (first | (first | (go_at_call 53; refine (spec_l02Mag_any _ _).mono ?_; rintro e w' ⟨rfl, rfl⟩) | (go_at_call 45; refine (l00In_any _ _ _ _).mono ?_; rintro e w' ⟨rfl, rfl⟩)) | (go_at_call 59; refine (l02Make_any _ _ _ (by omega) (by omega) (by omega) (by omega)).mono ?_; rintro e w' ⟨rfl, hb⟩; obtain ⟨hcb, hfb⟩ := bcell hb; have hzb := hb.size; try simp at hzb; try (have hz0 : w.heap.size < w'.heap.size := by omega); try (have hz1 : w.heap.size + 1 < w'.heap.size := by omega); try (have hz2 : w.heap.size + 2 < w'.heap.size := by omega)))
  exact bodyPost_ret (v := .tuple #[.agg #[.int .i64 (lowN (b - a) s), .int .i64 (lowD (b - a) s)], .int .i64 0]) (by simp [results, Try.results34, go_sem, hcb, hz0]) rfl ⟨by simp [stepSize, h1, h2, h3], (by repeat (first | exact Below.refl _ _ | assumption | refine Below.drew ?_ | refine below_drewN ?_ _ | refine Below.alloc ?_ (by first | omega | (simp; done) | (simp; omega)) _ | refine Below.setCell ?_ (by first | omega | (simp; done) | (simp; omega)) _ | refine Below.trans ?_ (Below.mono (by assumption) (by first | omega | (simp; done) | (simp; omega)))))⟩
