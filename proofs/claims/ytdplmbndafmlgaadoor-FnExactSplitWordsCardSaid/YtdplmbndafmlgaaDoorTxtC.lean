/-
  Contracts: texts of magnitudes, positions, dates and observers.
-/
import Derived.Test.YtdplmbndafmlgaaDoorTxtB
import Derived.Test.YtdplmbndafmlgaaDoorKp
import Derived.Deep.RegionHeld3
namespace Go.Proofs.YtdplmbndafmlgaaDoor
open Go.RowKit Pl
set_option linter.unusedVariables false
set_option linter.unusedSimpArgs false
theorem padL_le3 {u : Nat} (h : u < 1000) : (padL 3 (Lib.decDigits u)).length ≤ 3 := by rw [padL_dec 2 _ (by omega)]; exact pd_le 3 _
theorem padL_le2 {u : Nat} (h : u < 100) : (padL 2 (Lib.decDigits u)).length ≤ 2 := by rw [padL_dec 1 _ (by omega)]; exact pd_le 2 _
theorem padL_le4 {u : Nat} (h : u < 10000) : (padL 4 (Lib.decDigits u)).length ≤ 4 := by rw [padL_dec 3 _ (by omega)]; exact pd_le 4 _
theorem absAt {x : Int} (u : Nat) (hx : x = (u : Int) ∨ x = -(u : Int)) (hu : u ≤ 1000000000) (w : World) : Calls Tryd.prog 58 #[.int .i64 x] w fun e w' => e = .returned (.int .i64 (u : Int)) ∧ w = w' := by
  rcases hx with rfl | rfl
  · have h : ¬ (u : Int) < 0 := by omega
    go_enter Tryd.func58, Tryd.ntmps58
    go_wp2
    go_ret
    exact ⟨rfl, rfl⟩
  · by_cases h0 : u = 0
    · subst h0
      go_enter Tryd.func58, Tryd.ntmps58
      go_wp2
      go_ret
      exact ⟨rfl, rfl⟩
    · have h : -(u : Int) < 0 := by omega
      have h' : (0 : Int) < (u : Int) := by omega
      go_enter Tryd.func58, Tryd.ntmps58
      go_wp2
      go_ret
      exact ⟨by simp, rfl⟩
theorem text3 (a b c : List UInt8) : (⟨a.toArray⟩ ++ ⟨b.toArray⟩ ++ ⟨c.toArray⟩ : ByteArray) = ⟨(a ++ b ++ c).toArray⟩ := by rw [ba_app, ba_app]
theorem text4 (a b c d : List UInt8) : (⟨a.toArray⟩ ++ ⟨b.toArray⟩ ++ ⟨c.toArray⟩ ++ ⟨d.toArray⟩ : ByteArray) = ⟨(a ++ b ++ c ++ d).toArray⟩ := by rw [ba_app, ba_app, ba_app]
theorem text5 (a b c d e : List UInt8) : (⟨a.toArray⟩ ++ ⟨b.toArray⟩ ++ ⟨c.toArray⟩ ++ ⟨d.toArray⟩ ++ ⟨e.toArray⟩ : ByteArray) = ⟨(a ++ b ++ c ++ d ++ e).toArray⟩ := by rw [ba_app, ba_app, ba_app, ba_app]
def magT (m : Int) : List UInt8 := (if m < 0 then [45] else []) ++ Lib.decDigits (m.natAbs / 1000) ++ [46] ++ pd 3 (m.natAbs % 1000)
def magText2 (m : Int) : List UInt8 := if inB m (-2000) 20000 = true then magT m else []
set_option maxHeartbeats 1000000 in
theorem l02Text_any (m : Int) (h : -2000 ≤ m ∧ m ≤ 20000) (w : World) : Calls Tryd.prog 56 #[.int .i64 m] w fun e w' => e = .returned (.string ⟨(magT m).toArray⟩) ∧ Below w.heap.size w w' := by
  have HB0 := hide (Below.refl w.heap.size w)
  rcases Int.lt_or_le m 0 with hm | hm
  · obtain ⟨u, hu⟩ := Int.eq_ofNat_of_zero_le (show 0 ≤ -m by omega)
    have e0 : m = -(u : Int) := by omega
    subst e0
    have E := hide (show magT (-(u : Int)) = [45] ++ Lib.decDigits (u / 1000) ++ [46] ++ pd 3 (u % 1000) from by unfold magT; rw [if_pos hm, Int.natAbs_neg, Int.natAbs_natCast])
    have hp : (0 : Int) < (u : Int) := by omega
    clear hu
    go_enter Tryd.func56, Tryd.ntmps56
    go_wp2_with fail
    refine (l01Dec_at (u / 1000) (by omega) (by omega) _).mono ?_
    rintro e w1 ⟨rfl, b⟩
    have HB1 := hide (HB0.out.trans (b.mono HB0.out.size))
    clear b
    have hl1 := dec_len (u := u / 1000) (by omega)
    go_wp2_with fail
    refine (l02Three_at (u % 1000) (by omega) (by omega) _).mono ?_
    rintro e w2 ⟨rfl, b⟩
    have HB2 := hide (HB1.out.trans (b.mono HB1.out.size))
    clear b
    have hl2 := pd_le 3 (u % 1000)
    go_wp2
    go_ret
    exact ⟨ret_strD (by rw [E.out]; exact text4 [45] _ [46] _), HB2.out⟩
  · obtain ⟨u, rfl⟩ := Int.eq_ofNat_of_zero_le hm
    have E := hide (show magT (u : Int) = Lib.decDigits (u / 1000) ++ [46] ++ pd 3 (u % 1000) from by unfold magT; rw [if_neg (by omega), Int.natAbs_natCast]; rfl)
    have hp : ¬ (u : Int) < 0 := by omega
    go_enter Tryd.func56, Tryd.ntmps56
    go_wp2_with fail
    refine (l01Dec_at (u / 1000) (by omega) (by omega) _).mono ?_
    rintro e w1 ⟨rfl, b⟩
    have HB1 := hide (HB0.out.trans (b.mono HB0.out.size))
    clear b
    have hl1 := dec_len (u := u / 1000) (by omega)
    go_wp2_with fail
    refine (l02Three_at (u % 1000) (by omega) (by omega) _).mono ?_
    rintro e w2 ⟨rfl, b⟩
    have HB2 := hide (HB1.out.trans (b.mono HB1.out.size))
    clear b
    have hl2 := pd_le 3 (u % 1000)
    go_wp2
    go_ret
    exact ⟨ret_strD (by rw [E.out]; first | exact text3 _ [46] _ | exact text4 [] _ [46] _), HB2.out⟩
theorem spec_MagText_any (m : Int) (w : World) : Calls Tryd.prog 19 #[.int .i64 m] w fun e w' => e = .returned (.string ⟨(magText2 m).toArray⟩) ∧ Below w.heap.size w w' := by
  cases h : inB m (-2000) 20000
  · have E := hide (show magText2 m = [] from by simp [magText2, h])
    go_enter Tryd.func19, Tryd.ntmps19
    go_wp2_with (go_at_call 55; refine (spec_l02Mag_any _ _).mono ?_; rintro e w' ⟨rfl, rfl⟩)
    go_ret
    exact ⟨ret_strD (by rw [E.out]), Below.refl _ _⟩
  · have E := hide (show magText2 m = magT m from by simp [magText2, h])
    have H := hide (inB_true h)
    go_enter Tryd.func19, Tryd.ntmps19
    go_wp2_with (go_at_call 55; refine (spec_l02Mag_any _ _).mono ?_; rintro e w' ⟨rfl, rfl⟩)
    refine (l02Text_any m H.out _).mono ?_
    rintro e w1 ⟨rfl, b⟩
    have HB := hide b
    clear b
    go_wp2
    go_ret
    exact ⟨ret_strD (by rw [E.out]), HB.out⟩
set_option maxHeartbeats 1000000 in
theorem impl_MagText_any (m : Int) (w : World) (T : Tab w) : Calls Tryd.prog 20 #[.int .i64 m] w fun e w' => e = .returned (.string ⟨(magText2 m).toArray⟩) ∧ Below w.heap.size w w' := by
  have HB0 := hide (Below.refl w.heap.size w)
  have HT := hide T
  clear T
  cases h : inB m (-2000) 20000
  · have E := hide (show magText2 m = [] from by simp [magText2, h])
    go_enter Tryd.func20, Tryd.ntmps20
    go_wp2_with (go_at_call 57; refine (impl_ValidMag_any _ _).mono ?_; rintro e w' ⟨rfl, rfl⟩)
    go_ret
    exact ⟨ret_strD (by rw [E.out]), HB0.out⟩
  obtain ⟨g1, g2⟩ := inB_true h
  rcases Int.lt_or_le m 0 with hm | hm
  · obtain ⟨u, hu⟩ := Int.eq_ofNat_of_zero_le (show 0 ≤ -m by omega)
    have e0 : m = -(u : Int) := by omega
    subst e0
    have E := hide (show magText2 (-(u : Int)) = [45] ++ Lib.decDigits (u / 1000) ++ [46] ++ pd 3 (u % 1000) from by rw [magText2, if_pos h]; unfold magT; rw [if_pos hm, Int.natAbs_neg, Int.natAbs_natCast])
    have hp : (0 : Int) < (u : Int) := by omega
    clear hu
    go_enter Tryd.func20, Tryd.ntmps20
    go_wp2_with (first | (go_at_call 57; refine (impl_ValidMag_any _ _).mono ?_; rintro e w' ⟨rfl, rfl⟩) | (go_at_call 58; refine (absAt u (by omega) (by omega) _).mono ?_; rintro e w' ⟨rfl, rfl⟩))
    refine (Decimal_at (u / 1000) (by omega) (by omega) _ (HT.out.below HB0.out)).mono ?_
    rintro e w1 ⟨rfl, b⟩
    have HB1 := hide (HB0.out.trans (b.mono HB0.out.size))
    clear b
    have hl1 := dec_len (u := u / 1000) (by omega)
    go_wp2_with (first | (go_at_call 57; refine (impl_ValidMag_any _ _).mono ?_; rintro e w' ⟨rfl, rfl⟩) | (go_at_call 58; refine (absAt u (by omega) (by omega) _).mono ?_; rintro e w' ⟨rfl, rfl⟩))
    refine (padded_at (u % 1000) 3 (by omega) (by omega) (by omega) _ (HT.out.below HB1.out)).mono ?_
    rintro e w2 ⟨rfl, b⟩
    have HB2 := hide (HB1.out.trans (b.mono HB1.out.size))
    clear b
    have hl2 := padL_le3 (u := u % 1000) (by omega)
    go_wp2
    go_ret
    exact ⟨ret_strD (by rw [E.out, padL_dec 2 _ (by omega)]; exact text4 [45] _ [46] _), HB2.out⟩
  · obtain ⟨u, rfl⟩ := Int.eq_ofNat_of_zero_le hm
    have E := hide (show magText2 (u : Int) = Lib.decDigits (u / 1000) ++ [46] ++ pd 3 (u % 1000) from by rw [magText2, if_pos h]; unfold magT; rw [if_neg (by omega), Int.natAbs_natCast]; rfl)
    have hp : ¬ (u : Int) < 0 := by omega
    go_enter Tryd.func20, Tryd.ntmps20
    go_wp2_with (first | (go_at_call 57; refine (impl_ValidMag_any _ _).mono ?_; rintro e w' ⟨rfl, rfl⟩) | (go_at_call 58; refine (absAt u (by omega) (by omega) _).mono ?_; rintro e w' ⟨rfl, rfl⟩))
    refine (Decimal_at (u / 1000) (by omega) (by omega) _ (HT.out.below HB0.out)).mono ?_
    rintro e w1 ⟨rfl, b⟩
    have HB1 := hide (HB0.out.trans (b.mono HB0.out.size))
    clear b
    have hl1 := dec_len (u := u / 1000) (by omega)
    go_wp2_with (first | (go_at_call 57; refine (impl_ValidMag_any _ _).mono ?_; rintro e w' ⟨rfl, rfl⟩) | (go_at_call 58; refine (absAt u (by omega) (by omega) _).mono ?_; rintro e w' ⟨rfl, rfl⟩))
    refine (padded_at (u % 1000) 3 (by omega) (by omega) (by omega) _ (HT.out.below HB1.out)).mono ?_
    rintro e w2 ⟨rfl, b⟩
    have HB2 := hide (HB1.out.trans (b.mono HB1.out.size))
    clear b
    have hl2 := padL_le3 (u := u % 1000) (by omega)
    go_wp2
    go_ret
    exact ⟨ret_strD (by rw [E.out, padL_dec 2 _ (by omega)]; exact text3 _ [46] _), HB2.out⟩
theorem txtc_end : True := trivial
end Go.Proofs.YtdplmbndafmlgaaDoor
