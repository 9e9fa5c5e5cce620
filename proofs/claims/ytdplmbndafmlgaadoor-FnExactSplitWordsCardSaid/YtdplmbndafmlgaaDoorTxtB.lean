/-
  Contracts: texts of times and magnitudes.
-/
import Derived.Test.YtdplmbndafmlgaaDoorTxt
namespace Go.Proofs.YtdplmbndafmlgaaDoor
open Go.RowKit Pl
set_option linter.unusedVariables false
set_option linter.unusedSimpArgs false
theorem dec_small_len {u : Nat} (h : u < 10) : (Lib.decDigits u).length ≤ 1 := by rw [dec_small h]; simp
theorem three_pd {u : Nat} (h : u < 1000) : Lib.decDigits (u / 100) ++ Lib.decDigits (u / 10 % 10) ++ Lib.decDigits (u % 10) = pd 3 u := by
  rw [dec_small (by omega), dec_small (by omega), dec_small (by omega), pd_3]
  simp only [List.cons_append, List.nil_append]
  rw [dig_congr (a := u / 100) (b := u / 10 / 10) (by omega), dig_congr (a := u / 10 % 10) (b := u / 10) (by omega), dig_congr (a := u % 10) (b := u) (by omega)]
theorem pd_le (k u : Nat) : (pd k u).length ≤ k := by rw [pd_len]; exact Nat.le_refl _
set_option maxHeartbeats 1000000 in
theorem l03Two_at {x : Int} (u : Nat) (hx : x = (u : Int)) (hu : u < 100) (w : World) : Calls Tryd.prog 83 #[.int .i64 x] w fun e w' => e = .returned (.string ⟨(pd 2 u).toArray⟩) ∧ Below w.heap.size w w' := by
  have HB0 := hide (Below.refl w.heap.size w)
  subst hx
  go_enter Tryd.func83, Tryd.ntmps83
  go_wp2_with fail
  refine (l01Dec_at (u / 10) (by omega) (by omega) _).mono ?_
  rintro e w1 ⟨rfl, b⟩
  have HB1 := hide (HB0.out.trans (b.mono HB0.out.size))
  clear b
  have hl1 := dec_small_len (u := u / 10) (by omega)
  go_wp2_with fail
  refine (l01Dec_at (u % 10) (by omega) (by omega) _).mono ?_
  rintro e w2 ⟨rfl, b⟩
  have HB2 := hide (HB1.out.trans (b.mono HB1.out.size))
  clear b
  have hl2 := dec_small_len (u := u % 10) (by omega)
  go_wp2
  go_ret
  exact ⟨ret_strD (by rw [ba_app, two_pd hu]), HB2.out⟩
set_option maxHeartbeats 1000000 in
theorem l04Two_at {x : Int} (u : Nat) (hx : x = (u : Int)) (hu : u < 100) (w : World) : Calls Tryd.prog 93 #[.int .i64 x] w fun e w' => e = .returned (.string ⟨(pd 2 u).toArray⟩) ∧ Below w.heap.size w w' := by
  have HB0 := hide (Below.refl w.heap.size w)
  subst hx
  go_enter Tryd.func93, Tryd.ntmps93
  go_wp2_with fail
  refine (l01Dec_at (u / 10) (by omega) (by omega) _).mono ?_
  rintro e w1 ⟨rfl, b⟩
  have HB1 := hide (HB0.out.trans (b.mono HB0.out.size))
  clear b
  have hl1 := dec_small_len (u := u / 10) (by omega)
  go_wp2_with fail
  refine (l01Dec_at (u % 10) (by omega) (by omega) _).mono ?_
  rintro e w2 ⟨rfl, b⟩
  have HB2 := hide (HB1.out.trans (b.mono HB1.out.size))
  clear b
  have hl2 := dec_small_len (u := u % 10) (by omega)
  go_wp2
  go_ret
  exact ⟨ret_strD (by rw [ba_app, two_pd hu]), HB2.out⟩
set_option maxHeartbeats 1000000 in
theorem l03Four_at {x : Int} (u : Nat) (hx : x = (u : Int)) (hu : u < 10000) (w : World) : Calls Tryd.prog 52 #[.int .i64 x] w fun e w' => e = .returned (.string ⟨(pd 4 u).toArray⟩) ∧ Below w.heap.size w w' := by
  have HB0 := hide (Below.refl w.heap.size w)
  subst hx
  go_enter Tryd.func52, Tryd.ntmps52
  go_wp2_with fail
  refine (l03Two_at (u / 100 % 100) (by omega) (by omega) _).mono ?_
  rintro e w1 ⟨rfl, b⟩
  have HB1 := hide (HB0.out.trans (b.mono HB0.out.size))
  clear b
  have hl1 := pd_le 2 (u / 100 % 100)
  go_wp2_with fail
  refine (l03Two_at (u % 100) (by omega) (by omega) _).mono ?_
  rintro e w2 ⟨rfl, b⟩
  have HB2 := hide (HB1.out.trans (b.mono HB1.out.size))
  clear b
  have hl2 := pd_le 2 (u % 100)
  go_wp2
  go_ret
  exact ⟨ret_strD (by rw [ba_app, four_pd]), HB2.out⟩
set_option maxHeartbeats 1000000 in
theorem l02Three_at {x : Int} (u : Nat) (hx : x = (u : Int)) (hu : u < 1000) (w : World) : Calls Tryd.prog 84 #[.int .i64 x] w fun e w' => e = .returned (.string ⟨(pd 3 u).toArray⟩) ∧ Below w.heap.size w w' := by
  have HB0 := hide (Below.refl w.heap.size w)
  subst hx
  go_enter Tryd.func84, Tryd.ntmps84
  go_wp2_with fail
  refine (l01Dec_at (u / 100) (by omega) (by omega) _).mono ?_
  rintro e w1 ⟨rfl, b⟩
  have HB1 := hide (HB0.out.trans (b.mono HB0.out.size))
  clear b
  have hl1 := dec_small_len (u := u / 100) (by omega)
  go_wp2_with fail
  refine (l01Dec_at (u / 10 % 10) (by omega) (by omega) _).mono ?_
  rintro e w2 ⟨rfl, b⟩
  have HB2 := hide (HB1.out.trans (b.mono HB1.out.size))
  clear b
  have hl2 := dec_small_len (u := u / 10 % 10) (by omega)
  go_wp2_with fail
  refine (l01Dec_at (u % 10) (by omega) (by omega) _).mono ?_
  rintro e w3 ⟨rfl, b⟩
  have HB3 := hide (HB2.out.trans (b.mono HB2.out.size))
  clear b
  have hl3 := dec_small_len (u := u % 10) (by omega)
  go_wp2
  go_ret
  exact ⟨ret_strD (by rw [ba_app, ba_app, three_pd hu]), HB3.out⟩
def timeText (t : Int) : List UInt8 := if inB t 0 10000000 = true then Lib.decDigits (t.toNat / 10000) ++ [46] ++ pd 4 (t.toNat % 10000) else []
set_option maxHeartbeats 1000000 in
theorem spec_TimeText_any (t : Int) (w : World) : Calls Tryd.prog 17 #[.int .i64 t] w fun e w' => e = .returned (.string ⟨(timeText t).toArray⟩) ∧ Below w.heap.size w w' := by
  have HB0 := hide (Below.refl w.heap.size w)
  cases h : inB t 0 10000000
  · have E := hide (show timeText t = [] from by simp [timeText, h])
    go_enter Tryd.func17, Tryd.ntmps17
    go_wp2_with (go_at_call 51; refine (spec_l03Time_any _ _).mono ?_; rintro e w' ⟨rfl, rfl⟩)
    go_ret
    exact ⟨ret_strD (by rw [E.out]), HB0.out⟩
  · obtain ⟨g1, g2⟩ := inB_true h
    obtain ⟨u, rfl⟩ := Int.eq_ofNat_of_zero_le g1
    have E := hide (show timeText (u : Int) = Lib.decDigits (u / 10000) ++ [46] ++ pd 4 (u % 10000) from by simp [timeText, h])
    go_enter Tryd.func17, Tryd.ntmps17
    go_wp2_with (go_at_call 51; refine (spec_l03Time_any _ _).mono ?_; rintro e w' ⟨rfl, rfl⟩)
    refine (l01Dec_at (u / 10000) (by omega) (by omega) _).mono ?_
    rintro e w1 ⟨rfl, b⟩
    have HB1 := hide (HB0.out.trans (b.mono HB0.out.size))
    clear b
    have hl1 := dec_len (u := u / 10000) (by omega)
    go_wp2_with fail
    refine (l03Four_at (u % 10000) (by omega) (by omega) _).mono ?_
    rintro e w2 ⟨rfl, b⟩
    have HB2 := hide (HB1.out.trans (b.mono HB1.out.size))
    clear b
    have hl2 := pd_le 4 (u % 10000)
    go_wp2
    go_ret
    exact ⟨ret_strD (by rw [ba_app, ba_app, E.out]), HB2.out⟩
set_option maxHeartbeats 1000000 in
theorem impl_TimeText_any (t : Int) (w : World) (T : Tab w) : Calls Tryd.prog 18 #[.int .i64 t] w fun e w' => e = .returned (.string ⟨(timeText t).toArray⟩) ∧ Below w.heap.size w w' := by
  have HB0 := hide (Below.refl w.heap.size w)
  have HT := hide T
  clear T
  cases h : inB t 0 10000000
  · have E := hide (show timeText t = [] from by simp [timeText, h])
    go_enter Tryd.func18, Tryd.ntmps18
    go_wp2_with (go_at_call 53; refine (impl_ValidTime_any _ _).mono ?_; rintro e w' ⟨rfl, rfl⟩)
    go_ret
    exact ⟨ret_strD (by rw [E.out]), HB0.out⟩
  · obtain ⟨g1, g2⟩ := inB_true h
    obtain ⟨u, rfl⟩ := Int.eq_ofNat_of_zero_le g1
    have E := hide (show timeText (u : Int) = Lib.decDigits (u / 10000) ++ [46] ++ pd 4 (u % 10000) from by simp [timeText, h])
    go_enter Tryd.func18, Tryd.ntmps18
    go_wp2_with (go_at_call 53; refine (impl_ValidTime_any _ _).mono ?_; rintro e w' ⟨rfl, rfl⟩)
    refine (Decimal_at (u / 10000) (by omega) (by omega) _ (HT.out.below HB0.out)).mono ?_
    rintro e w1 ⟨rfl, b⟩
    have HB1 := hide (HB0.out.trans (b.mono HB0.out.size))
    clear b
    have hl1 := dec_len (u := u / 10000) (by omega)
    go_wp2_with fail
    refine (padded_at (u % 10000) 4 (by omega) (by omega) (by omega) _ (HT.out.below HB1.out)).mono ?_
    rintro e w2 ⟨rfl, b⟩
    have HB2 := hide (HB1.out.trans (b.mono HB1.out.size))
    clear b
    have hl2 := show (padL 4 (Lib.decDigits (u % 10000))).length ≤ 4 from by rw [padL_dec 3 _ (by omega)]; exact pd_le 4 _
    go_wp2
    go_ret
    exact ⟨ret_strD (by rw [ba_app, ba_app, E.out, padL_dec 3 _ (by omega)]), HB2.out⟩
def magText (m : Int) : List UInt8 := if inB m (-2000) 20000 = true then (if m < 0 then [45] else []) ++ Lib.decDigits (m.natAbs / 1000) ++ [46] ++ pd 3 (m.natAbs % 1000) else []
theorem spec_Decimal_any (x : Int) (hx : -9223372036854775808 ≤ x ∧ x ≤ 9223372036854775807) (w : World) :
    Calls Tryd.prog 15 #[.int .i64 x] w fun e w' => e = .returned (.string ⟨(Lib.itoa x).toArray⟩) ∧ Below w.heap.size w w' := by
  go_enter Tryd.func15, Tryd.ntmps15
  go_wp2_with fail
  refine (l01Dec_any x hx _).mono ?_
  rintro e w1 ⟨rfl, b⟩
  have HB := hide b
  clear b
  go_wp2
  go_ret
  exact ⟨rfl, HB.out⟩
theorem txtb_end : True := trivial
end Go.Proofs.YtdplmbndafmlgaaDoor
