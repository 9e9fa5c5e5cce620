/-
  Contracts: texts of dates.
-/
import Derived.Test.YtdplmbndafmlgaaDoorTxtC
import Derived.Test.YtdplmbndafmlgaaDoorDayB
namespace Go.Proofs.YtdplmbndafmlgaaDoor
open Go.RowKit Pl
set_option linter.unusedVariables false
set_option linter.unusedSimpArgs false
theorem dec_four {u : Nat} (h : 1000 ≤ u) (h' : u < 10000) : Lib.decDigits u = pd 4 u := by
  rw [dec_big (by omega), dec_big (by omega), dec_big (by omega), dec_small (by omega)]
  rfl
theorem vdate_bd {y m d : Int} (h : vdate y m d = true) : 2001 ≤ y ∧ y ≤ 2300 ∧ 1 ≤ m ∧ m ≤ 12 ∧ 1 ≤ d ∧ d ≤ 31 := by
  simp only [vdate, Bool.and_eq_true] at h
  have h1 := inB_true h.1.1.1
  have h2 := inB_true h.1.1.2
  have h3 := inB_true h.1.2
  have h4 : mdays y m ≤ 31 := by
    unfold mdays ydays
    (repeat' split) <;> omega
  omega
def dateT (y m d : Int) : List UInt8 := pd 4 y.toNat ++ [45] ++ pd 2 m.toNat ++ [45] ++ pd 2 d.toNat
def dateText (y m d : Int) : List UInt8 := if vdate y m d = true then dateT y m d else []
set_option maxHeartbeats 2000000 in
set_option maxRecDepth 100000 in
theorem impl_DateText_any (y m d : Int) (w : World) (T : Tab w) : Calls Tryd.prog 27 #[.agg #[.int .i64 y, .int .i64 m, .int .i64 d]] w fun e w' => e = .returned (.string ⟨(dateText y m d).toArray⟩) ∧ Below w.heap.size w w' := by
  have HT := hide T
  clear T
  obtain ⟨w0, hw0⟩ : ∃ w0, w0 = (w.alloc (.cells #[.int .i64 (y : Int), .int .i64 (m : Int), .int .i64 (d : Int)] 34)) := ⟨_, rfl⟩
  have E0 := hide (show Below w.heap.size w w0 from hw0 ▸ (Below.refl _ _).alloc (Nat.le_refl _) _)
  have hz0 : w.heap.size < w0.heap.size := by rw [hw0]; simp
  have C0 := hide (show w0.cell? ⟨w.heap.size, 0, none⟩ = some (.int .i64 (y : Int)) from by rw [hw0]; simp [go_sem])
  have C1 := hide (show w0.cell? ⟨w.heap.size, 1, none⟩ = some (.int .i64 (m : Int)) from by rw [hw0]; simp [go_sem])
  have C2 := hide (show w0.cell? ⟨w.heap.size, 2, none⟩ = some (.int .i64 (d : Int)) from by rw [hw0]; simp [go_sem])
  have HW0 := hide hw0
  clear hw0
  cases h : vdate y m d
  · have E := hide (show dateText y m d = [] from by simp [dateText, h])
    go_enter Tryd.func27, Tryd.ntmps27
    go_wp2_with fail
    rw [← HW0.out]
    refine (impl_ValidDate_any _ _ _ _).mono ?_
    rintro e w1 ⟨rfl, b⟩
    have HB := hide (E0.out.trans (b.mono E0.out.size))
    clear b
    go_wp2
    go_ret
    exact ⟨ret_strD (by rw [E.out]), HB.out⟩
  · obtain ⟨g1, g2, g3, g4, g5, g6⟩ := vdate_bd h
    obtain ⟨Y, rfl⟩ := Int.eq_ofNat_of_zero_le (show 0 ≤ y by omega)
    obtain ⟨M, rfl⟩ := Int.eq_ofNat_of_zero_le (show 0 ≤ m by omega)
    obtain ⟨Z, rfl⟩ := Int.eq_ofNat_of_zero_le (show 0 ≤ d by omega)
    have E := hide (show dateText (Y : Int) (M : Int) (Z : Int) = pd 4 Y ++ [45] ++ pd 2 M ++ [45] ++ pd 2 Z from by rw [dateText, if_pos h]; rfl)
    go_enter Tryd.func27, Tryd.ntmps27
    go_wp2_with fail
    rw [← HW0.out]
    refine (impl_ValidDate_any _ _ _ _).mono ?_
    rintro e w1 ⟨rfl, b⟩
    have BX := hide b
    have BB := hide (E0.out.trans (b.mono E0.out.size))
    have x0 := (BX.out.cell (p := ⟨w.heap.size, 0, none⟩) hz0).trans C0.out
    have x1 := (BX.out.cell (p := ⟨w.heap.size, 1, none⟩) hz0).trans C1.out
    have x2 := (BX.out.cell (p := ⟨w.heap.size, 2, none⟩) hz0).trans C2.out
    have l1 := padL_le4 (u := Y) (by omega)
    have l2 := padL_le2 (u := M) (by omega)
    have l3 := padL_le2 (u := Z) (by omega)
    clear b
    have k0a : ¬ 9223372036854775807 < (padL 4 (Lib.decDigits Y)).length + 1 := by omega
    have k0b : ¬ 9223372036854775807 ≤ (padL 4 (Lib.decDigits Y)).length := by omega
    have k1a : ¬ 9223372036854775807 < (padL 4 (Lib.decDigits Y)).length + 1 + (padL 2 (Lib.decDigits M)).length := by omega
    have k2a : ¬ 9223372036854775807 < (padL 4 (Lib.decDigits Y)).length + 1 + (padL 2 (Lib.decDigits M)).length + 1 := by omega
    have k2b : ¬ 9223372036854775807 ≤ (padL 4 (Lib.decDigits Y)).length + 1 + (padL 2 (Lib.decDigits M)).length := by omega
    have k3a : ¬ 9223372036854775807 < (padL 4 (Lib.decDigits Y)).length + 1 + (padL 2 (Lib.decDigits M)).length + 1 + (padL 2 (Lib.decDigits Z)).length := by omega
    go_wp2_with fail
    have UU := hide ((Below.refl w1.heap.size w1).drew)
    have hzi : w.heap.size < w1.heap.size := by have := BB.out.size; have := E0.out.size; first | omega | (have := BX.out.size; omega)
    go_region_held3 (fun w' => w'.cell? ⟨w.heap.size, 0, none⟩ = some (.int .i64 (Y : Int)) ∧ w'.cell? ⟨w.heap.size, 1, none⟩ = some (.int .i64 (M : Int)) ∧ w'.cell? ⟨w.heap.size, 2, none⟩ = some (.int .i64 (Z : Int))) (go_keep)
      (first | (go_at_call_of 54 (Value.int IntKind.i64 (Y : Int)); refine (padded_at Y 4 rfl (by omega) (by omega) _ (HT.out.below (BB.out.trans (UU.out.mono BB.out.size)))).mono ?_; rintro e wx ⟨rfl, b⟩; have UU_ := hide (UU.out.trans (b.mono UU.out.size)); clear UU; have UU := UU_; clear UU_; have y0 := (UU.out.cell (p := ⟨w.heap.size, 0, none⟩) hzi).trans x0; have y1 := (UU.out.cell (p := ⟨w.heap.size, 1, none⟩) hzi).trans x1; have y2 := (UU.out.cell (p := ⟨w.heap.size, 2, none⟩) hzi).trans x2) | (go_at_call_of 54 (Value.int IntKind.i64 (M : Int)); refine (padded_at M 2 rfl (by omega) (by omega) _ (HT.out.below (BB.out.trans (UU.out.mono BB.out.size)))).mono ?_; rintro e wx ⟨rfl, b⟩; have UU_ := hide (UU.out.trans (b.mono UU.out.size)); clear UU; have UU := UU_; clear UU_; have y0 := (UU.out.cell (p := ⟨w.heap.size, 0, none⟩) hzi).trans x0; have y1 := (UU.out.cell (p := ⟨w.heap.size, 1, none⟩) hzi).trans x1; have y2 := (UU.out.cell (p := ⟨w.heap.size, 2, none⟩) hzi).trans x2) | (go_at_call_of 54 (Value.int IntKind.i64 (Z : Int)); refine (padded_at Z 2 rfl (by omega) (by omega) _ (HT.out.below (BB.out.trans (UU.out.mono BB.out.size)))).mono ?_; rintro e wx ⟨rfl, b⟩; have UU_ := hide (UU.out.trans (b.mono UU.out.size)); clear UU; have UU := UU_; clear UU_; have y0 := (UU.out.cell (p := ⟨w.heap.size, 0, none⟩) hzi).trans x0; have y1 := (UU.out.cell (p := ⟨w.heap.size, 1, none⟩) hzi).trans x1; have y2 := (UU.out.cell (p := ⟨w.heap.size, 2, none⟩) hzi).trans x2))
    all_goals
      go_wp2
      go_ret
      exact ⟨ret_strD (by rw [E.out, padL_dec 3 Y (by omega), padL_dec 1 M (by omega), padL_dec 1 Z (by omega)]; first | exact text5 _ [45] _ [45] _ | simp), BB.out.trans (UU.out.mono BB.out.size)⟩
set_option maxHeartbeats 2000000 in
set_option maxRecDepth 100000 in
theorem l03Text_any (Y M Z : Nat) (hY : 1000 ≤ Y ∧ Y < 10000) (hM : M < 100) (hZ : Z < 100) (w : World) : Calls Tryd.prog 63 #[.agg #[.int .i64 (Y : Int), .int .i64 (M : Int), .int .i64 (Z : Int)]] w fun e w' => e = .returned (.string ⟨(pd 4 Y ++ [45] ++ pd 2 M ++ [45] ++ pd 2 Z).toArray⟩) ∧ Below w.heap.size w w' := by
  obtain ⟨w0, hw0⟩ : ∃ w0, w0 = (w.alloc (.cells #[.int .i64 (Y : Int), .int .i64 (M : Int), .int .i64 (Z : Int)] 34)) := ⟨_, rfl⟩
  have E0 := hide (show Below w.heap.size w w0 from hw0 ▸ (Below.refl _ _).alloc (Nat.le_refl _) _)
  have hz0 : w.heap.size < w0.heap.size := by rw [hw0]; simp
  have C0 := hide (show w0.cell? ⟨w.heap.size, 0, none⟩ = some (.int .i64 (Y : Int)) from by rw [hw0]; simp [go_sem])
  have C1 := hide (show w0.cell? ⟨w.heap.size, 1, none⟩ = some (.int .i64 (M : Int)) from by rw [hw0]; simp [go_sem])
  have C2 := hide (show w0.cell? ⟨w.heap.size, 2, none⟩ = some (.int .i64 (Z : Int)) from by rw [hw0]; simp [go_sem])
  have HW0 := hide hw0
  clear hw0
  have BX := hide (Below.refl w0.heap.size w0)
  have BB := E0
  have x0 := (BX.out.cell (p := ⟨w.heap.size, 0, none⟩) hz0).trans C0.out
  have x1 := (BX.out.cell (p := ⟨w.heap.size, 1, none⟩) hz0).trans C1.out
  have x2 := (BX.out.cell (p := ⟨w.heap.size, 2, none⟩) hz0).trans C2.out
  have l1 := dec_len (u := Y) (by omega)
  have l2 := pd_le 2 M
  have l3 := pd_le 2 Z
  have k0a : ¬ 9223372036854775807 < (Lib.decDigits Y).length + 1 := by omega
  have k0b : ¬ 9223372036854775807 ≤ (Lib.decDigits Y).length := by omega
  have k1a : ¬ 9223372036854775807 < (Lib.decDigits Y).length + 1 + (pd 2 M).length := by omega
  have k2a : ¬ 9223372036854775807 < (Lib.decDigits Y).length + 1 + (pd 2 M).length + 1 := by omega
  have k2b : ¬ 9223372036854775807 ≤ (Lib.decDigits Y).length + 1 + (pd 2 M).length := by omega
  have k3a : ¬ 9223372036854775807 < (Lib.decDigits Y).length + 1 + (pd 2 M).length + 1 + (pd 2 Z).length := by omega
  go_enter Tryd.func63, Tryd.ntmps63
  go_wp2_with fail
  rw [← HW0.out]
  have UU := hide ((Below.refl w0.heap.size w0).drew)
  have hzi : w.heap.size < w0.heap.size := by have := BB.out.size; have := E0.out.size; first | omega | (have := BX.out.size; omega)
  go_region_held3 (fun w' => w'.cell? ⟨w.heap.size, 0, none⟩ = some (.int .i64 (Y : Int)) ∧ w'.cell? ⟨w.heap.size, 1, none⟩ = some (.int .i64 (M : Int)) ∧ w'.cell? ⟨w.heap.size, 2, none⟩ = some (.int .i64 (Z : Int))) (go_keep)
    (first | (go_at_call_of 49 (Value.int IntKind.i64 (Y : Int)); refine (l01Dec_at Y rfl (by omega) _).mono ?_; rintro e wx ⟨rfl, b⟩; have UU_ := hide (UU.out.trans (b.mono UU.out.size)); clear UU; have UU := UU_; clear UU_; have y0 := (UU.out.cell (p := ⟨w.heap.size, 0, none⟩) hzi).trans x0; have y1 := (UU.out.cell (p := ⟨w.heap.size, 1, none⟩) hzi).trans x1; have y2 := (UU.out.cell (p := ⟨w.heap.size, 2, none⟩) hzi).trans x2) | (go_at_call_of 83 (Value.int IntKind.i64 (M : Int)); refine (l03Two_at M rfl hM _).mono ?_; rintro e wx ⟨rfl, b⟩; have UU_ := hide (UU.out.trans (b.mono UU.out.size)); clear UU; have UU := UU_; clear UU_; have y0 := (UU.out.cell (p := ⟨w.heap.size, 0, none⟩) hzi).trans x0; have y1 := (UU.out.cell (p := ⟨w.heap.size, 1, none⟩) hzi).trans x1; have y2 := (UU.out.cell (p := ⟨w.heap.size, 2, none⟩) hzi).trans x2) | (go_at_call_of 83 (Value.int IntKind.i64 (Z : Int)); refine (l03Two_at Z rfl hZ _).mono ?_; rintro e wx ⟨rfl, b⟩; have UU_ := hide (UU.out.trans (b.mono UU.out.size)); clear UU; have UU := UU_; clear UU_; have y0 := (UU.out.cell (p := ⟨w.heap.size, 0, none⟩) hzi).trans x0; have y1 := (UU.out.cell (p := ⟨w.heap.size, 1, none⟩) hzi).trans x1; have y2 := (UU.out.cell (p := ⟨w.heap.size, 2, none⟩) hzi).trans x2))
  all_goals
    go_wp2
    go_ret
    exact ⟨ret_strD (by rw [← dec_four hY.1 hY.2]; first | exact text5 _ [45] _ [45] _ | simp), BB.out.trans (UU.out.mono BB.out.size)⟩
theorem spec_DateText_any (y m d : Int) (w : World) : Calls Tryd.prog 25 #[.agg #[.int .i64 y, .int .i64 m, .int .i64 d]] w fun e w' => e = .returned (.string ⟨(dateText y m d).toArray⟩) ∧ Below w.heap.size w w' := by
  obtain ⟨w0, hw0⟩ : ∃ w0, w0 = (w.alloc (.cells #[.int .i64 (y : Int), .int .i64 (m : Int), .int .i64 (d : Int)] 34)) := ⟨_, rfl⟩
  have E0 := hide (show Below w.heap.size w w0 from hw0 ▸ (Below.refl _ _).alloc (Nat.le_refl _) _)
  have hz0 : w.heap.size < w0.heap.size := by rw [hw0]; simp
  have C0 := hide (show w0.cell? ⟨w.heap.size, 0, none⟩ = some (.int .i64 (y : Int)) from by rw [hw0]; simp [go_sem])
  have C1 := hide (show w0.cell? ⟨w.heap.size, 1, none⟩ = some (.int .i64 (m : Int)) from by rw [hw0]; simp [go_sem])
  have C2 := hide (show w0.cell? ⟨w.heap.size, 2, none⟩ = some (.int .i64 (d : Int)) from by rw [hw0]; simp [go_sem])
  have HW0 := hide hw0
  clear hw0
  cases h : vdate y m d
  · have E := hide (show dateText y m d = [] from by simp [dateText, h])
    go_enter Tryd.func25, Tryd.ntmps25
    go_wp2_with fail
    rw [← HW0.out]
    refine (spec_ValidDate_any _ _ _ _).mono ?_
    rintro e w1 ⟨rfl, b⟩
    have HB := hide (E0.out.trans (b.mono E0.out.size))
    clear b
    go_wp2
    go_ret
    exact ⟨ret_strD (by rw [E.out]), HB.out⟩
  · obtain ⟨g1, g2, g3, g4, g5, g6⟩ := vdate_bd h
    obtain ⟨Y, rfl⟩ := Int.eq_ofNat_of_zero_le (show 0 ≤ y by omega)
    obtain ⟨M, rfl⟩ := Int.eq_ofNat_of_zero_le (show 0 ≤ m by omega)
    obtain ⟨Z, rfl⟩ := Int.eq_ofNat_of_zero_le (show 0 ≤ d by omega)
    have E := hide (show dateText (Y : Int) (M : Int) (Z : Int) = pd 4 Y ++ [45] ++ pd 2 M ++ [45] ++ pd 2 Z from by rw [dateText, if_pos h]; rfl)
    go_enter Tryd.func25, Tryd.ntmps25
    go_wp2_with fail
    rw [← HW0.out]
    refine (spec_ValidDate_any _ _ _ _).mono ?_
    rintro e w1 ⟨rfl, b⟩
    have BX := hide b
    have HB := hide (E0.out.trans (b.mono E0.out.size))
    have x0 := (BX.out.cell (p := ⟨w.heap.size, 0, none⟩) hz0).trans C0.out
    have x1 := (BX.out.cell (p := ⟨w.heap.size, 1, none⟩) hz0).trans C1.out
    have x2 := (BX.out.cell (p := ⟨w.heap.size, 2, none⟩) hz0).trans C2.out
    clear b
    go_wp2_with fail
    refine (l03Text_any Y M Z (by omega) (by omega) (by omega) _).mono ?_
    rintro e w2 ⟨rfl, b⟩
    have HB2 := hide (HB.out.trans (b.mono HB.out.size))
    clear b
    go_wp2
    go_ret
    exact ⟨ret_strD (by first | (rw [E.out]; done) | (rw [E.out]; simp)), HB2.out⟩
theorem txtd_end : True := trivial
end Go.Proofs.YtdplmbndafmlgaaDoor
