/-
  Contracts: texts of observers.
-/
import Derived.Test.YtdplmbndafmlgaaDoorTxtC
import Derived.Test.YtdplmbndafmlgaaDoorOk
import Derived.Test.YtdplmbndafmlgaaDoorRecO
namespace Go.Proofs.YtdplmbndafmlgaaDoor
open Go.RowKit Pl
set_option linter.unusedVariables false
set_option linter.unusedSimpArgs false
def obsStr (s : ByteArray) (n : Int) : ByteArray := s ++ (if n < 0 then ⟨#[32, 45]⟩ else ⟨#[32, 43]⟩) ++ ⟨(Lib.decDigits n.natAbs).toArray⟩
def obsText (s : ByteArray) (n : Int) : ByteArray := if obsB s n = true then obsStr s n else ⟨#[]⟩
theorem obs_neg (s : ByteArray) (l : List UInt8) : s ++ ⟨#[32]⟩ ++ ⟨(45 :: l).toArray⟩ = s ++ ⟨#[32, 45]⟩ ++ ⟨l.toArray⟩ := by
  apply ByteArray.ext
  simp [ByteArray.data_append]
theorem itoa_neg' {u : Nat} (h : 0 < u) : (Lib.itoa (-(u : Int))).length = (Lib.decDigits u).length + 1 := by rw [itoa_neg h]; rfl
set_option maxHeartbeats 2000000 in
set_option maxRecDepth 100000 in
theorem l05Text_neg (s : ByteArray) (u g : Nat) (hs : s.size ≤ 1048576) (h0 : 0 < u) (hu : u ≤ 2000) (w : World) (x0 : w.cell? ⟨g, 0, none⟩ = some (.string s)) (x1 : w.cell? ⟨g, 1, none⟩ = some (.int .i64 (-(u : Int)))) :
    Calls Tryd.prog 60 #[.pointer (some ⟨g, 0, none⟩)] w fun e w' => e = .returned (.string (s ++ ⟨#[32, 45]⟩ ++ ⟨(Lib.decDigits u).toArray⟩)) ∧ Below w.heap.size w w' := by
  have hz := World.block_lt_of_cell? w _ x0
  have l1 := dec_len (u := u) (by omega)
  have k0a : ¬ 9223372036854775807 < s.size + 1 := by omega
  have k0b : ¬ 9223372036854775807 ≤ s.size := by omega
  have k1a : ¬ 9223372036854775807 < s.size + 1 + ((Lib.decDigits u).length + 1) := by omega
  have hp : (0 : Int) < (u : Int) := by omega
  have HU := hide hu
  go_enter Tryd.func60, Tryd.ntmps60
  go_wp2_with fail
  have UU := hide ((Below.refl w.heap.size w).drew)
  go_region_held3 (fun w' => w'.cell? ⟨g, 0, none⟩ = some (.string s) ∧ w'.cell? ⟨g, 1, none⟩ = some (.int .i64 (-(u : Int)))) (go_keep)
    (first | (go_at_call_of 49 (Value.int IntKind.i64 (-(u : Int))); refine (l01Dec_neg u (by omega) (by omega) _).mono ?_; rintro e wx ⟨rfl, b⟩; have UU_ := hide (UU.out.trans (b.mono UU.out.size)); clear UU; have UU := UU_; clear UU_; have y0 := (UU.out.cell (p := ⟨g, 0, none⟩) hz).trans x0; have y1 := (UU.out.cell (p := ⟨g, 1, none⟩) hz).trans x1))
  all_goals
    go_wp2
    go_ret
    exact ⟨ret_strD (by first | rfl | rw [← obs_neg] | simp), UU.out⟩
set_option maxHeartbeats 2000000 in
set_option maxRecDepth 100000 in
theorem l05Text_nat (s : ByteArray) (u g : Nat) (hs : s.size ≤ 1048576) (hu : u ≤ 2000) (w : World) (x0 : w.cell? ⟨g, 0, none⟩ = some (.string s)) (x1 : w.cell? ⟨g, 1, none⟩ = some (.int .i64 ((u : Int)))) :
    Calls Tryd.prog 60 #[.pointer (some ⟨g, 0, none⟩)] w fun e w' => e = .returned (.string (s ++ ⟨#[32, 43]⟩ ++ ⟨(Lib.decDigits u).toArray⟩)) ∧ Below w.heap.size w w' := by
  have hz := World.block_lt_of_cell? w _ x0
  have l1 := dec_len (u := u) (by omega)
  have k0a : ¬ 9223372036854775807 < s.size + 2 := by omega
  have k1a : ¬ 9223372036854775807 < s.size + 2 + (Lib.decDigits u).length := by omega
  have hp : ¬ (u : Int) < 0 := by omega
  have HU := hide hu
  go_enter Tryd.func60, Tryd.ntmps60
  go_wp2_with fail
  have UU := hide ((Below.refl w.heap.size w).drew)
  go_region_held3 (fun w' => w'.cell? ⟨g, 0, none⟩ = some (.string s) ∧ w'.cell? ⟨g, 1, none⟩ = some (.int .i64 ((u : Int)))) (go_keep)
    (first | (go_at_call_of 49 (Value.int IntKind.i64 ((u : Int))); refine (l01Dec_nat u (by omega) _).mono ?_; rintro e wx ⟨rfl, b⟩; have UU_ := hide (UU.out.trans (b.mono UU.out.size)); clear UU; have UU := UU_; clear UU_; have y0 := (UU.out.cell (p := ⟨g, 0, none⟩) hz).trans x0; have y1 := (UU.out.cell (p := ⟨g, 1, none⟩) hz).trans x1))
  all_goals
    go_wp2
    go_ret
    exact ⟨ret_strD (by first | rfl | rw [← obs_neg] | simp), UU.out⟩
set_option maxHeartbeats 2000000 in
theorem spec_ObserverText_any (s : ByteArray) (n : Int) (hs : s.size ≤ 1048576) (w : World) : Calls Tryd.prog 22 #[.agg #[.string s, .int .i64 n]] w fun e w' => e = .returned (.string (obsText s n)) ∧ Below w.heap.size w w' := by
  have gs : s.size ≤ maxLen := by unfold maxLen; omega
  cases h : obsB s n
  · have E := hide (show obsText s n = ⟨#[]⟩ from by simp [obsText, h])
    obtain ⟨w0, hw0⟩ : ∃ w0, w0 = (w.alloc (.cells #[.string s, .int .i64 (n)] 28)) := ⟨_, rfl⟩
    have E0 := hide (show Below w.heap.size w w0 from hw0 ▸ (Below.refl _ _).alloc (Nat.le_refl _) _)
    have hz0 : w.heap.size < w0.heap.size := by rw [hw0]; simp
    have C0 := hide (show w0.cell? ⟨w.heap.size, 0, none⟩ = some (.string s) from by rw [hw0]; simp [go_sem])
    have C1 := hide (show w0.cell? ⟨w.heap.size, 1, none⟩ = some (.int .i64 (n)) from by rw [hw0]; simp [go_sem])
    have HW0 := hide hw0
    clear hw0
    go_enter Tryd.func22, Tryd.ntmps22
    go_wp2_with fail
    rw [← HW0.out]
    refine (spec_l05One_any s n _ gs _ _ C0.out C1.out).mono ?_
    rintro e w' ⟨rfl, rfl⟩
    go_wp2
    go_ret
    exact ⟨ret_strD (by rw [E.out]), E0.out⟩
  have hb : -2000 ≤ n ∧ n ≤ 2000 := by
    have h1 := h
    simp only [obsB, Bool.and_eq_true] at h1
    exact inB_true h1.2
  rcases Int.lt_or_le n 0 with hm | hm
  · obtain ⟨u, hu⟩ := Int.eq_ofNat_of_zero_le (show 0 ≤ -n by omega)
    have e0 : n = -(u : Int) := by omega
    subst e0
    have E := hide (show obsText s (-(u : Int)) = s ++ ⟨#[32, 45]⟩ ++ ⟨(Lib.decDigits u).toArray⟩ from by rw [obsText, if_pos h, obsStr, if_pos hm, Int.natAbs_neg, Int.natAbs_natCast])
    clear hu
    obtain ⟨w0, hw0⟩ : ∃ w0, w0 = (w.alloc (.cells #[.string s, .int .i64 (-(u : Int))] 28)) := ⟨_, rfl⟩
    have E0 := hide (show Below w.heap.size w w0 from hw0 ▸ (Below.refl _ _).alloc (Nat.le_refl _) _)
    have hz0 : w.heap.size < w0.heap.size := by rw [hw0]; simp
    have C0 := hide (show w0.cell? ⟨w.heap.size, 0, none⟩ = some (.string s) from by rw [hw0]; simp [go_sem])
    have C1 := hide (show w0.cell? ⟨w.heap.size, 1, none⟩ = some (.int .i64 (-(u : Int))) from by rw [hw0]; simp [go_sem])
    have HW0 := hide hw0
    clear hw0
    go_enter Tryd.func22, Tryd.ntmps22
    go_wp2_with fail
    rw [← HW0.out]
    refine (spec_l05One_any s (-(u : Int)) _ gs _ _ C0.out C1.out).mono ?_
    rintro e w' ⟨rfl, rfl⟩
    go_wp2_with fail
    refine (l05Text_neg s u _ hs (by omega) (by omega) _ C0.out C1.out).mono ?_
    rintro e w1 ⟨rfl, b⟩
    have HB := hide (E0.out.trans (b.mono E0.out.size))
    clear b
    go_wp2
    go_ret
    exact ⟨ret_strD (by rw [E.out]), HB.out⟩
  · obtain ⟨u, rfl⟩ := Int.eq_ofNat_of_zero_le hm
    have E := hide (show obsText s (u : Int) = s ++ ⟨#[32, 43]⟩ ++ ⟨(Lib.decDigits u).toArray⟩ from by rw [obsText, if_pos h, obsStr, if_neg (by omega), Int.natAbs_natCast])
    obtain ⟨w0, hw0⟩ : ∃ w0, w0 = (w.alloc (.cells #[.string s, .int .i64 ((u : Int))] 28)) := ⟨_, rfl⟩
    have E0 := hide (show Below w.heap.size w w0 from hw0 ▸ (Below.refl _ _).alloc (Nat.le_refl _) _)
    have hz0 : w.heap.size < w0.heap.size := by rw [hw0]; simp
    have C0 := hide (show w0.cell? ⟨w.heap.size, 0, none⟩ = some (.string s) from by rw [hw0]; simp [go_sem])
    have C1 := hide (show w0.cell? ⟨w.heap.size, 1, none⟩ = some (.int .i64 ((u : Int))) from by rw [hw0]; simp [go_sem])
    have HW0 := hide hw0
    clear hw0
    go_enter Tryd.func22, Tryd.ntmps22
    go_wp2_with fail
    rw [← HW0.out]
    refine (spec_l05One_any s ((u : Int)) _ gs _ _ C0.out C1.out).mono ?_
    rintro e w' ⟨rfl, rfl⟩
    go_wp2_with fail
    refine (l05Text_nat s u _ hs (by omega) _ C0.out C1.out).mono ?_
    rintro e w1 ⟨rfl, b⟩
    have HB := hide (E0.out.trans (b.mono E0.out.size))
    clear b
    go_wp2
    go_ret
    exact ⟨ret_strD (by rw [E.out]), HB.out⟩
set_option maxHeartbeats 2000000 in
set_option maxRecDepth 100000 in
theorem impl_ObserverText_any (s : ByteArray) (n : Int) (hs : s.size ≤ 1048576) (w : World) (T : Tab w) : Calls Tryd.prog 24 #[.agg #[.string s, .int .i64 n]] w fun e w' => e = .returned (.string (obsText s n)) ∧ Below w.heap.size w w' := by
  have HT := hide T
  clear T
  have gs : s.size ≤ maxLen := by unfold maxLen; omega
  cases h : obsB s n
  · have E := hide (show obsText s n = ⟨#[]⟩ from by simp [obsText, h])
    obtain ⟨w0, hw0⟩ : ∃ w0, w0 = (w.alloc (.cells #[.string s, .int .i64 (n)] 28)) := ⟨_, rfl⟩
    have E0 := hide (show Below w.heap.size w w0 from hw0 ▸ (Below.refl _ _).alloc (Nat.le_refl _) _)
    have hz0 : w.heap.size < w0.heap.size := by rw [hw0]; simp
    have C0 := hide (show w0.cell? ⟨w.heap.size, 0, none⟩ = some (.string s) from by rw [hw0]; simp [go_sem])
    have C1 := hide (show w0.cell? ⟨w.heap.size, 1, none⟩ = some (.int .i64 (n)) from by rw [hw0]; simp [go_sem])
    have HW0 := hide hw0
    clear hw0
    go_enter Tryd.func24, Tryd.ntmps24
    go_wp2_with fail
    rw [← HW0.out]
    refine (impl_isObserver_any s n _ gs).mono ?_
    rintro e w1 ⟨rfl, b⟩
    have HB := hide (E0.out.trans (b.mono E0.out.size))
    clear b
    go_wp2
    go_ret
    exact ⟨ret_strD (by rw [E.out]), HB.out⟩
  have hb : -2000 ≤ n ∧ n ≤ 2000 := by
    have h1 := h
    simp only [obsB, Bool.and_eq_true] at h1
    exact inB_true h1.2
  rcases Int.lt_or_le n 0 with hm | hm
  · obtain ⟨u, hu⟩ := Int.eq_ofNat_of_zero_le (show 0 ≤ -n by omega)
    have e0 : n = -(u : Int) := by omega
    subst e0
    have E := hide (show obsText s (-(u : Int)) = s ++ ⟨#[32, 45]⟩ ++ ⟨(Lib.decDigits u).toArray⟩ from by rw [obsText, if_pos h, obsStr, if_pos hm, Int.natAbs_neg, Int.natAbs_natCast])
    clear hu
    obtain ⟨w0, hw0⟩ : ∃ w0, w0 = (w.alloc (.cells #[.string s, .int .i64 (-(u : Int))] 28)) := ⟨_, rfl⟩
    have E0 := hide (show Below w.heap.size w w0 from hw0 ▸ (Below.refl _ _).alloc (Nat.le_refl _) _)
    have hz0 : w.heap.size < w0.heap.size := by rw [hw0]; simp
    have C0 := hide (show w0.cell? ⟨w.heap.size, 0, none⟩ = some (.string s) from by rw [hw0]; simp [go_sem])
    have C1 := hide (show w0.cell? ⟨w.heap.size, 1, none⟩ = some (.int .i64 (-(u : Int))) from by rw [hw0]; simp [go_sem])
    have HW0 := hide hw0
    clear hw0
    have l1 := dec_len (u := u) (by omega)
    have k0a : ¬ 9223372036854775807 < s.size + 2 := by omega
    have k1a : ¬ 9223372036854775807 < s.size + 2 + (Lib.decDigits u).length := by omega
    have hp : (0 : Int) < (u : Int) := by omega
    go_enter Tryd.func24, Tryd.ntmps24
    go_wp2_with fail
    rw [← HW0.out]
    refine (impl_isObserver_any s (-(u : Int)) _ gs).mono ?_
    rintro e w1 ⟨rfl, b⟩
    have BX := hide b
    have BB := hide (E0.out.trans (b.mono E0.out.size))
    have x0 := (BX.out.cell (p := ⟨w.heap.size, 0, none⟩) hz0).trans C0.out
    have x1 := (BX.out.cell (p := ⟨w.heap.size, 1, none⟩) hz0).trans C1.out
    clear b
    go_wp2_with fail
    have UU := hide ((Below.refl w1.heap.size w1).drew)
    have hzi : w.heap.size < w1.heap.size := by have := BB.out.size; have := E0.out.size; first | omega | (have := BX.out.size; omega)
    go_region_held3 (fun w' => w'.cell? ⟨w.heap.size, 0, none⟩ = some (.string s) ∧ w'.cell? ⟨w.heap.size, 1, none⟩ = some (.int .i64 (-(u : Int)))) (go_keep)
      (first | (go_at_call_of 58 (Value.int IntKind.i64 (-(u : Int))); refine (absAt u (by omega) (by omega) _).mono ?_; rintro e w' ⟨rfl, rfl⟩) | (go_at_call_of 16 (Value.int IntKind.i64 (u : Int)); refine (Decimal_at u rfl (by omega) _ (HT.out.below (BB.out.trans (UU.out.mono BB.out.size)))).mono ?_; rintro e wx ⟨rfl, b⟩; have UU_ := hide (UU.out.trans (b.mono UU.out.size)); clear UU; have UU := UU_; clear UU_; have y0 := (UU.out.cell (p := ⟨w.heap.size, 0, none⟩) hzi).trans x0; have y1 := (UU.out.cell (p := ⟨w.heap.size, 1, none⟩) hzi).trans x1))
    all_goals
      go_wp2
      go_ret
      exact ⟨ret_strD (by rw [E.out]), BB.out.trans (UU.out.mono BB.out.size)⟩
  · obtain ⟨u, rfl⟩ := Int.eq_ofNat_of_zero_le hm
    have E := hide (show obsText s (u : Int) = s ++ ⟨#[32, 43]⟩ ++ ⟨(Lib.decDigits u).toArray⟩ from by rw [obsText, if_pos h, obsStr, if_neg (by omega), Int.natAbs_natCast])
    obtain ⟨w0, hw0⟩ : ∃ w0, w0 = (w.alloc (.cells #[.string s, .int .i64 ((u : Int))] 28)) := ⟨_, rfl⟩
    have E0 := hide (show Below w.heap.size w w0 from hw0 ▸ (Below.refl _ _).alloc (Nat.le_refl _) _)
    have hz0 : w.heap.size < w0.heap.size := by rw [hw0]; simp
    have C0 := hide (show w0.cell? ⟨w.heap.size, 0, none⟩ = some (.string s) from by rw [hw0]; simp [go_sem])
    have C1 := hide (show w0.cell? ⟨w.heap.size, 1, none⟩ = some (.int .i64 ((u : Int))) from by rw [hw0]; simp [go_sem])
    have HW0 := hide hw0
    clear hw0
    have l1 := dec_len (u := u) (by omega)
    have k0a : ¬ 9223372036854775807 < s.size + 2 := by omega
    have k1a : ¬ 9223372036854775807 < s.size + 2 + (Lib.decDigits u).length := by omega
    have hp : ¬ (u : Int) < 0 := by omega
    go_enter Tryd.func24, Tryd.ntmps24
    go_wp2_with fail
    rw [← HW0.out]
    refine (impl_isObserver_any s ((u : Int)) _ gs).mono ?_
    rintro e w1 ⟨rfl, b⟩
    have BX := hide b
    have BB := hide (E0.out.trans (b.mono E0.out.size))
    have x0 := (BX.out.cell (p := ⟨w.heap.size, 0, none⟩) hz0).trans C0.out
    have x1 := (BX.out.cell (p := ⟨w.heap.size, 1, none⟩) hz0).trans C1.out
    clear b
    go_wp2_with fail
    have UU := hide ((Below.refl w1.heap.size w1).drew)
    have hzi : w.heap.size < w1.heap.size := by have := BB.out.size; have := E0.out.size; first | omega | (have := BX.out.size; omega)
    go_region_held3 (fun w' => w'.cell? ⟨w.heap.size, 0, none⟩ = some (.string s) ∧ w'.cell? ⟨w.heap.size, 1, none⟩ = some (.int .i64 ((u : Int)))) (go_keep)
      (first | (go_at_call_of 58 (Value.int IntKind.i64 ((u : Int))); refine (absAt u (by omega) (by omega) _).mono ?_; rintro e w' ⟨rfl, rfl⟩) | (go_at_call_of 16 (Value.int IntKind.i64 (u : Int)); refine (Decimal_at u rfl (by omega) _ (HT.out.below (BB.out.trans (UU.out.mono BB.out.size)))).mono ?_; rintro e wx ⟨rfl, b⟩; have UU_ := hide (UU.out.trans (b.mono UU.out.size)); clear UU; have UU := UU_; clear UU_; have y0 := (UU.out.cell (p := ⟨w.heap.size, 0, none⟩) hzi).trans x0; have y1 := (UU.out.cell (p := ⟨w.heap.size, 1, none⟩) hzi).trans x1))
    all_goals
      go_wp2
      go_ret
      exact ⟨ret_strD (by rw [E.out]), BB.out.trans (UU.out.mono BB.out.size)⟩
theorem szObserver_len (a0 : ByteArray) (a1 : Int) (left : Int) (w : World) (h : 0 ≤ left) (k : left ≤ 1048576) (h0 : okS a0) : Calls Tryd.prog 21 #[.agg #[.string a0, .int .i64 a1], .int .i64 left] w (SzPost left a0.size w) := by
  unfold okS maxLen at h0
  by_cases c1 : left - (a0.size : Int) < 0
  · go_enter Tryd.func21, Tryd.ntmps21
    go_wp2
    go_ret
    exact ⟨_, rfl, by omega, (by repeat (first | exact Below.refl _ _ | assumption | refine Below.drew ?_ | refine below_drewN ?_ _ | refine Below.alloc ?_ (by first | omega | (simp; done) | (simp; omega)) _ | refine Below.setCell ?_ (by first | omega | (simp; done) | (simp; omega)) _ | refine Below.trans ?_ (Below.mono (by assumption) (by first | omega | (simp; done) | (simp; omega)))))⟩
  · go_enter Tryd.func21, Tryd.ntmps21
    go_wp2
    go_ret
    exact ⟨_, rfl, by omega, (by repeat (first | exact Below.refl _ _ | assumption | refine Below.drew ?_ | refine below_drewN ?_ _ | refine Below.alloc ?_ (by first | omega | (simp; done) | (simp; omega)) _ | refine Below.setCell ?_ (by first | omega | (simp; done) | (simp; omega)) _ | refine Below.trans ?_ (Below.mono (by assumption) (by first | omega | (simp; done) | (simp; omega)))))⟩
theorem txte_end : True := trivial
end Go.Proofs.YtdplmbndafmlgaaDoor
