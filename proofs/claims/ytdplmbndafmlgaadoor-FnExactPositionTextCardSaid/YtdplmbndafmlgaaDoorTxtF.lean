/-
  Contracts: texts of positions.
-/
import Derived.Test.YtdplmbndafmlgaaDoorTxtC
import Derived.Test.YtdplmbndafmlgaaDoorShJ
import Derived.Test.YtdplmbndafmlgaaDoorOk
import Derived.Test.YtdplmbndafmlgaaDoorRecS
namespace Go.Proofs.YtdplmbndafmlgaaDoor
open Go.RowKit Pl
set_option linter.unusedVariables false
set_option linter.unusedSimpArgs false
def parts (n : Nat) : List UInt8 := pd 2 (n / 3600) ++ [58] ++ pd 2 (n / 60 % 60) ++ [58] ++ pd 2 (n % 60)
theorem parts_len (n : Nat) : (parts n).length ≤ 8 := by
  unfold parts
  simp only [List.length_append, pd_len, List.length_singleton]
  omega
theorem join3 (a b c : List UInt8) : Lib.join [a, b, c] [58] = a ++ [58] ++ b ++ [58] ++ c := by simp [Lib.join, List.intercalate]
def posStr (a d : Int) : List UInt8 := parts a.toNat ++ (if d < 0 then [32, 45] else [32, 43]) ++ parts d.natAbs
def posText (s : ByteArray) (a d b f : Int) : List UInt8 := if starB s a d b f = true then posStr a d else []
set_option maxHeartbeats 1000000 in
theorem l04Parts_at {x : Int} (u : Nat) (hx : x = (u : Int)) (hu : u ≤ 324000) (w : World) : Calls Tryd.prog 68 #[.int .i64 x] w fun e w' => e = .returned (.string ⟨(parts u).toArray⟩) ∧ Below w.heap.size w w' := by
  have HB0 := hide (Below.refl w.heap.size w)
  subst hx
  go_enter Tryd.func68, Tryd.ntmps68
  go_wp2_with fail
  refine (l04Two_at (u / 3600) (by omega) (by omega) _).mono ?_
  rintro e w1 ⟨rfl, b⟩
  have HB1 := hide (HB0.out.trans (b.mono HB0.out.size))
  clear b
  have hl1 := pd_le 2 (u / 3600)
  go_wp2_with fail
  refine (l04Two_at (u / 60 % 60) (by omega) (by omega) _).mono ?_
  rintro e w2 ⟨rfl, b⟩
  have HB2 := hide (HB1.out.trans (b.mono HB1.out.size))
  clear b
  have hl2 := pd_le 2 (u / 60 % 60)
  go_wp2_with fail
  refine (l04Two_at (u % 60) (by omega) (by omega) _).mono ?_
  rintro e w3 ⟨rfl, b⟩
  have HB3 := hide (HB2.out.trans (b.mono HB2.out.size))
  clear b
  have hl3 := pd_le 2 (u % 60)
  go_wp2
  go_ret
  exact ⟨ret_strD (by first | exact text5 _ [58] _ [58] _ | (unfold parts; simp)), HB3.out⟩
set_option maxHeartbeats 1000000 in
theorem sexagesimal_at {x : Int} (u : Nat) (hx : x = (u : Int)) (hu : u ≤ 324000) (w : World) (T : Tab w) : Calls Tryd.prog 70 #[.int .i64 x] w fun e w' => e = .returned (.string ⟨(parts u).toArray⟩) ∧ Below w.heap.size w w' := by
  have HB0 := hide (Below.refl w.heap.size w)
  have HT := hide T
  clear T
  subst hx
  go_enter Tryd.func70, Tryd.ntmps70
  go_wp2_with fail
  refine (padded_at (u / 3600) 2 (by omega) (by omega) (by omega) _ (HT.out.below HB0.out)).mono ?_
  rintro e w1 ⟨rfl, b⟩
  have HB1 := hide (HB0.out.trans (b.mono HB0.out.size))
  clear b
  go_wp2_with fail
  refine (padded_at (u / 60 % 60) 2 (by omega) (by omega) (by omega) _ (HT.out.below HB1.out)).mono ?_
  rintro e w2 ⟨rfl, b⟩
  have HB2 := hide (HB1.out.trans (b.mono HB1.out.size))
  clear b
  go_wp2_with fail
  refine (padded_at (u % 60) 2 (by omega) (by omega) (by omega) _ (HT.out.below HB2.out)).mono ?_
  rintro e w3 ⟨rfl, b⟩
  have HB3 := hide (HB2.out.trans (b.mono HB2.out.size))
  clear b
  rw [padL_dec 1 (u / 3600) (by omega), padL_dec 1 (u / 60 % 60) (by omega), padL_dec 1 (u % 60) (by omega)]
  go_wp2_with fail
  have hj : (Lib.join (([⟨(pd 2 (u / 3600)).toArray⟩, ⟨(pd 2 (u / 60 % 60)).toArray⟩, ⟨(pd 2 (u % 60)).toArray⟩] : List ByteArray).map (·.data.toList)) [58]) = parts u := join3 _ _ _
  have HJ := hide hj
  clear hj
  refine (Tryd.strings_Join w3.heap.size 0 3 [⟨(pd 2 (u / 3600)).toArray⟩, ⟨(pd 2 (u / 60 % 60)).toArray⟩, ⟨(pd 2 (u % 60)).toArray⟩] ⟨#[58]⟩ _ ?_ ?_ (by simp) (by simp) ?_).mono ?_
  · intro j x hj
    match j, hj with
    | 0, hj => simp at hj; subst hj; simp [go_sem]
    | 1, hj => simp at hj; subst hj; simp [go_sem]
    | 2, hj => simp at hj; subst hj; simp [go_sem]
  · simp
  · have h1 := parts_len u
    have h2 := congrArg List.length HJ.out
    exact Nat.le_trans (Nat.le_of_eq h2) (by omega)
  rintro e w4 ⟨rfl, b⟩
  have HB4 := hide (HB3.out.trans ((Below.alloc (Below.refl w3.heap.size w3) (Nat.le_refl _) _ |>.trans (b.mono (by simp))).mono HB3.out.size))
  clear b
  go_wp2
  go_ret
  exact ⟨ret_strD (congrArg (fun l : List UInt8 => (⟨l.toArray⟩ : ByteArray)) HJ.out), HB4.out⟩
set_option maxHeartbeats 4000000 in
set_option maxRecDepth 100000 in
theorem spec_PositionText_any (s : ByteArray) (a d br fa : Int) (gs : s.size ≤ maxLen) (w : World) : Calls Tryd.prog 32 #[.agg #[.string s, .int .i64 a, .int .i64 d, .int .i64 br, .int .i64 fa]] w fun e w' => e = .returned (.string ⟨(posText s a d br fa).toArray⟩) ∧ Below w.heap.size w w' := by
  cases h : starB s a d br fa
  · have E := hide (show posText s a d br fa = [] from by simp [posText, h])
    obtain ⟨w0, hw0⟩ : ∃ w0, w0 = (w.alloc (.cells #[.string s, .int .i64 a, .int .i64 d, .int .i64 br, .int .i64 fa] 45)) := ⟨_, rfl⟩
    have E0 := hide (show Below w.heap.size w w0 from hw0 ▸ (Below.refl _ _).alloc (Nat.le_refl _) _)
    have hz0 : w.heap.size < w0.heap.size := by rw [hw0]; simp
    have C0 := hide (show w0.cell? ⟨w.heap.size, 0, none⟩ = some (.string s) from by rw [hw0]; simp [go_sem])
    have C1 := hide (show w0.cell? ⟨w.heap.size, 1, none⟩ = some (.int .i64 a) from by rw [hw0]; simp [go_sem])
    have C2 := hide (show w0.cell? ⟨w.heap.size, 2, none⟩ = some (.int .i64 d) from by rw [hw0]; simp [go_sem])
    have C3 := hide (show w0.cell? ⟨w.heap.size, 3, none⟩ = some (.int .i64 br) from by rw [hw0]; simp [go_sem])
    have C4 := hide (show w0.cell? ⟨w.heap.size, 4, none⟩ = some (.int .i64 fa) from by rw [hw0]; simp [go_sem])
    have HW0 := hide hw0
    clear hw0
    go_enter Tryd.func32, Tryd.ntmps32
    go_wp2_with fail
    rw [← HW0.out]
    refine (spec_l04One_any s a d br fa _ gs _ _ C0.out C1.out C2.out C3.out C4.out).mono ?_
    rintro e w1 ⟨rfl, q, hq⟩
    have b : Below w0.heap.size w0 w1 := hq ▸ below_drewN (Below.refl _ _) _
    clear hq
    have HB := hide (E0.out.trans (b.mono E0.out.size))
    clear b
    go_wp2
    go_ret
    exact ⟨ret_strD (by rw [E.out]), HB.out⟩
  have hb : (0 ≤ a ∧ a ≤ 86399) ∧ (-324000 ≤ d ∧ d ≤ 324000) := by
    have h1 := h
    simp only [starB, Bool.and_eq_true] at h1
    exact ⟨inB_true h1.1.1.1.2.1, inB_true h1.1.1.1.2.2⟩
  obtain ⟨⟨a1, a2⟩, d1, d2⟩ := hb
  obtain ⟨A, rfl⟩ := Int.eq_ofNat_of_zero_le a1
  rcases Int.lt_or_le d 0 with hm | hm
  · obtain ⟨u, hu⟩ := Int.eq_ofNat_of_zero_le (show 0 ≤ -d by omega)
    have e0 : d = -(u : Int) := by omega
    subst e0
    have E := hide (show posText s (A : Int) (-(u : Int)) br fa = parts A ++ [32, 45] ++ parts u from by rw [posText, if_pos h, posStr, if_pos hm, Int.natAbs_neg, Int.natAbs_natCast, Int.toNat_natCast])
    clear hu
    have l1 := parts_len A
    have l2 := parts_len u
    have k0a : ¬ 9223372036854775807 < (parts A).length + 2 := by omega
    have k1a : ¬ 9223372036854775807 < (parts A).length + 2 + (parts u).length := by omega
    have hp : (0 : Int) < (u : Int) := by omega
    have hw1 : IntKind.i64.wrap (u : Int) = (u : Int) := by rw [IntKind.wrap_i64]; omega
    obtain ⟨w0, hw0⟩ : ∃ w0, w0 = (w.alloc (.cells #[.string s, .int .i64 (A : Int), .int .i64 (-(u : Int)), .int .i64 br, .int .i64 fa] 45)) := ⟨_, rfl⟩
    have E0 := hide (show Below w.heap.size w w0 from hw0 ▸ (Below.refl _ _).alloc (Nat.le_refl _) _)
    have hz0 : w.heap.size < w0.heap.size := by rw [hw0]; simp
    have C0 := hide (show w0.cell? ⟨w.heap.size, 0, none⟩ = some (.string s) from by rw [hw0]; simp [go_sem])
    have C1 := hide (show w0.cell? ⟨w.heap.size, 1, none⟩ = some (.int .i64 (A : Int)) from by rw [hw0]; simp [go_sem])
    have C2 := hide (show w0.cell? ⟨w.heap.size, 2, none⟩ = some (.int .i64 (-(u : Int))) from by rw [hw0]; simp [go_sem])
    have C3 := hide (show w0.cell? ⟨w.heap.size, 3, none⟩ = some (.int .i64 br) from by rw [hw0]; simp [go_sem])
    have C4 := hide (show w0.cell? ⟨w.heap.size, 4, none⟩ = some (.int .i64 fa) from by rw [hw0]; simp [go_sem])
    have HW0 := hide hw0
    clear hw0
    go_enter Tryd.func32, Tryd.ntmps32
    go_wp2_with fail
    rw [← HW0.out]
    refine (spec_l04One_any s (A : Int) (-(u : Int)) br fa _ gs _ _ C0.out C1.out C2.out C3.out C4.out).mono ?_
    rintro e w1 ⟨rfl, q, hq⟩
    have b : Below w0.heap.size w0 w1 := hq ▸ below_drewN (Below.refl _ _) _
    clear hq
    have BX := hide b
    have BB := hide (E0.out.trans (b.mono E0.out.size))
    have x0 := (BX.out.cell (p := ⟨w.heap.size, 0, none⟩) hz0).trans C0.out
    have x1 := (BX.out.cell (p := ⟨w.heap.size, 1, none⟩) hz0).trans C1.out
    have x2 := (BX.out.cell (p := ⟨w.heap.size, 2, none⟩) hz0).trans C2.out
    have x3 := (BX.out.cell (p := ⟨w.heap.size, 3, none⟩) hz0).trans C3.out
    have x4 := (BX.out.cell (p := ⟨w.heap.size, 4, none⟩) hz0).trans C4.out
    clear b
    go_wp2_with fail
    have UU := hide ((Below.refl w1.heap.size w1).drew)
    have hzi : w.heap.size < w1.heap.size := by have := BB.out.size; have := E0.out.size; first | omega | (have := BX.out.size; omega)
    go_region_held3 (fun w' => w'.cell? ⟨w.heap.size, 0, none⟩ = some (.string s) ∧ w'.cell? ⟨w.heap.size, 1, none⟩ = some (.int .i64 (A : Int)) ∧ w'.cell? ⟨w.heap.size, 2, none⟩ = some (.int .i64 (-(u : Int))) ∧ w'.cell? ⟨w.heap.size, 3, none⟩ = some (.int .i64 br) ∧ w'.cell? ⟨w.heap.size, 4, none⟩ = some (.int .i64 fa)) (go_keep)
      (first | (go_at_call_of 68 (Value.int IntKind.i64 (A : Int)); refine (l04Parts_at A rfl (by omega) _).mono ?_; rintro e wx ⟨rfl, b⟩; have UU_ := hide (UU.out.trans (b.mono UU.out.size)); clear UU; have UU := UU_; clear UU_; have y0 := (UU.out.cell (p := ⟨w.heap.size, 0, none⟩) hzi).trans x0; have y1 := (UU.out.cell (p := ⟨w.heap.size, 1, none⟩) hzi).trans x1; have y2 := (UU.out.cell (p := ⟨w.heap.size, 2, none⟩) hzi).trans x2; have y3 := (UU.out.cell (p := ⟨w.heap.size, 3, none⟩) hzi).trans x3; have y4 := (UU.out.cell (p := ⟨w.heap.size, 4, none⟩) hzi).trans x4) | (go_at_call_of 68 (Value.int IntKind.i64 (u : Int)); refine (l04Parts_at u rfl (by omega) _).mono ?_; rintro e wx ⟨rfl, b⟩; have UU_ := hide (UU.out.trans (b.mono UU.out.size)); clear UU; have UU := UU_; clear UU_; have y0 := (UU.out.cell (p := ⟨w.heap.size, 0, none⟩) hzi).trans x0; have y1 := (UU.out.cell (p := ⟨w.heap.size, 1, none⟩) hzi).trans x1; have y2 := (UU.out.cell (p := ⟨w.heap.size, 2, none⟩) hzi).trans x2; have y3 := (UU.out.cell (p := ⟨w.heap.size, 3, none⟩) hzi).trans x3; have y4 := (UU.out.cell (p := ⟨w.heap.size, 4, none⟩) hzi).trans x4))
    all_goals
      go_wp2
      go_ret
      exact ⟨ret_strD (by rw [E.out]; first | exact text3 _ [32, 45] _ | simp), BB.out.trans (UU.out.mono BB.out.size)⟩
  · obtain ⟨u, rfl⟩ := Int.eq_ofNat_of_zero_le hm
    have E := hide (show posText s (A : Int) (u : Int) br fa = parts A ++ [32, 43] ++ parts u from by rw [posText, if_pos h, posStr, if_neg (by omega), Int.natAbs_natCast, Int.toNat_natCast])
    have l1 := parts_len A
    have l2 := parts_len u
    have k0a : ¬ 9223372036854775807 < (parts A).length + 2 := by omega
    have k1a : ¬ 9223372036854775807 < (parts A).length + 2 + (parts u).length := by omega
    have hp : ¬ (u : Int) < 0 := by omega
    have hw1 : IntKind.i64.wrap (u : Int) = (u : Int) := by rw [IntKind.wrap_i64]; omega
    obtain ⟨w0, hw0⟩ : ∃ w0, w0 = (w.alloc (.cells #[.string s, .int .i64 (A : Int), .int .i64 ((u : Int)), .int .i64 br, .int .i64 fa] 45)) := ⟨_, rfl⟩
    have E0 := hide (show Below w.heap.size w w0 from hw0 ▸ (Below.refl _ _).alloc (Nat.le_refl _) _)
    have hz0 : w.heap.size < w0.heap.size := by rw [hw0]; simp
    have C0 := hide (show w0.cell? ⟨w.heap.size, 0, none⟩ = some (.string s) from by rw [hw0]; simp [go_sem])
    have C1 := hide (show w0.cell? ⟨w.heap.size, 1, none⟩ = some (.int .i64 (A : Int)) from by rw [hw0]; simp [go_sem])
    have C2 := hide (show w0.cell? ⟨w.heap.size, 2, none⟩ = some (.int .i64 ((u : Int))) from by rw [hw0]; simp [go_sem])
    have C3 := hide (show w0.cell? ⟨w.heap.size, 3, none⟩ = some (.int .i64 br) from by rw [hw0]; simp [go_sem])
    have C4 := hide (show w0.cell? ⟨w.heap.size, 4, none⟩ = some (.int .i64 fa) from by rw [hw0]; simp [go_sem])
    have HW0 := hide hw0
    clear hw0
    go_enter Tryd.func32, Tryd.ntmps32
    go_wp2_with fail
    rw [← HW0.out]
    refine (spec_l04One_any s (A : Int) ((u : Int)) br fa _ gs _ _ C0.out C1.out C2.out C3.out C4.out).mono ?_
    rintro e w1 ⟨rfl, q, hq⟩
    have b : Below w0.heap.size w0 w1 := hq ▸ below_drewN (Below.refl _ _) _
    clear hq
    have BX := hide b
    have BB := hide (E0.out.trans (b.mono E0.out.size))
    have x0 := (BX.out.cell (p := ⟨w.heap.size, 0, none⟩) hz0).trans C0.out
    have x1 := (BX.out.cell (p := ⟨w.heap.size, 1, none⟩) hz0).trans C1.out
    have x2 := (BX.out.cell (p := ⟨w.heap.size, 2, none⟩) hz0).trans C2.out
    have x3 := (BX.out.cell (p := ⟨w.heap.size, 3, none⟩) hz0).trans C3.out
    have x4 := (BX.out.cell (p := ⟨w.heap.size, 4, none⟩) hz0).trans C4.out
    clear b
    go_wp2_with fail
    have UU := hide ((Below.refl w1.heap.size w1).drew)
    have hzi : w.heap.size < w1.heap.size := by have := BB.out.size; have := E0.out.size; first | omega | (have := BX.out.size; omega)
    go_region_held3 (fun w' => w'.cell? ⟨w.heap.size, 0, none⟩ = some (.string s) ∧ w'.cell? ⟨w.heap.size, 1, none⟩ = some (.int .i64 (A : Int)) ∧ w'.cell? ⟨w.heap.size, 2, none⟩ = some (.int .i64 ((u : Int))) ∧ w'.cell? ⟨w.heap.size, 3, none⟩ = some (.int .i64 br) ∧ w'.cell? ⟨w.heap.size, 4, none⟩ = some (.int .i64 fa)) (go_keep)
      (first | (go_at_call_of 68 (Value.int IntKind.i64 (A : Int)); refine (l04Parts_at A rfl (by omega) _).mono ?_; rintro e wx ⟨rfl, b⟩; have UU_ := hide (UU.out.trans (b.mono UU.out.size)); clear UU; have UU := UU_; clear UU_; have y0 := (UU.out.cell (p := ⟨w.heap.size, 0, none⟩) hzi).trans x0; have y1 := (UU.out.cell (p := ⟨w.heap.size, 1, none⟩) hzi).trans x1; have y2 := (UU.out.cell (p := ⟨w.heap.size, 2, none⟩) hzi).trans x2; have y3 := (UU.out.cell (p := ⟨w.heap.size, 3, none⟩) hzi).trans x3; have y4 := (UU.out.cell (p := ⟨w.heap.size, 4, none⟩) hzi).trans x4) | (go_at_call_of 68 (Value.int IntKind.i64 (u : Int)); refine (l04Parts_at u rfl (by omega) _).mono ?_; rintro e wx ⟨rfl, b⟩; have UU_ := hide (UU.out.trans (b.mono UU.out.size)); clear UU; have UU := UU_; clear UU_; have y0 := (UU.out.cell (p := ⟨w.heap.size, 0, none⟩) hzi).trans x0; have y1 := (UU.out.cell (p := ⟨w.heap.size, 1, none⟩) hzi).trans x1; have y2 := (UU.out.cell (p := ⟨w.heap.size, 2, none⟩) hzi).trans x2; have y3 := (UU.out.cell (p := ⟨w.heap.size, 3, none⟩) hzi).trans x3; have y4 := (UU.out.cell (p := ⟨w.heap.size, 4, none⟩) hzi).trans x4))
    all_goals
      go_wp2
      go_ret
      exact ⟨ret_strD (by rw [E.out]; first | exact text3 _ [32, 43] _ | simp), BB.out.trans (UU.out.mono BB.out.size)⟩
set_option maxHeartbeats 4000000 in
set_option maxRecDepth 100000 in
theorem impl_PositionText_any (s : ByteArray) (a d br fa : Int) (gs : s.size ≤ maxLen) (w : World) (T : Tab w) : Calls Tryd.prog 34 #[.agg #[.string s, .int .i64 a, .int .i64 d, .int .i64 br, .int .i64 fa]] w fun e w' => e = .returned (.string ⟨(posText s a d br fa).toArray⟩) ∧ Below w.heap.size w w' := by
  have HT := hide T
  clear T
  cases h : starB s a d br fa
  · have E := hide (show posText s a d br fa = [] from by simp [posText, h])
    obtain ⟨w0, hw0⟩ : ∃ w0, w0 = (w.alloc (.cells #[.string s, .int .i64 a, .int .i64 d, .int .i64 br, .int .i64 fa] 45)) := ⟨_, rfl⟩
    have E0 := hide (show Below w.heap.size w w0 from hw0 ▸ (Below.refl _ _).alloc (Nat.le_refl _) _)
    have hz0 : w.heap.size < w0.heap.size := by rw [hw0]; simp
    have C0 := hide (show w0.cell? ⟨w.heap.size, 0, none⟩ = some (.string s) from by rw [hw0]; simp [go_sem])
    have C1 := hide (show w0.cell? ⟨w.heap.size, 1, none⟩ = some (.int .i64 a) from by rw [hw0]; simp [go_sem])
    have C2 := hide (show w0.cell? ⟨w.heap.size, 2, none⟩ = some (.int .i64 d) from by rw [hw0]; simp [go_sem])
    have C3 := hide (show w0.cell? ⟨w.heap.size, 3, none⟩ = some (.int .i64 br) from by rw [hw0]; simp [go_sem])
    have C4 := hide (show w0.cell? ⟨w.heap.size, 4, none⟩ = some (.int .i64 fa) from by rw [hw0]; simp [go_sem])
    have HW0 := hide hw0
    clear hw0
    go_enter Tryd.func34, Tryd.ntmps34
    go_wp2_with fail
    rw [← HW0.out]
    refine (impl_isStar_any s a d br fa _ gs).mono ?_
    rintro e w1 ⟨rfl, b⟩
    have HB := hide (E0.out.trans (b.mono E0.out.size))
    clear b
    go_wp2
    go_ret
    exact ⟨ret_strD (by rw [E.out]), HB.out⟩
  have hb : (0 ≤ a ∧ a ≤ 86399) ∧ (-324000 ≤ d ∧ d ≤ 324000) := by
    have h1 := h
    simp only [starB, Bool.and_eq_true] at h1
    exact ⟨inB_true h1.1.1.1.2.1, inB_true h1.1.1.1.2.2⟩
  obtain ⟨⟨a1, a2⟩, d1, d2⟩ := hb
  obtain ⟨A, rfl⟩ := Int.eq_ofNat_of_zero_le a1
  rcases Int.lt_or_le d 0 with hm | hm
  · obtain ⟨u, hu⟩ := Int.eq_ofNat_of_zero_le (show 0 ≤ -d by omega)
    have e0 : d = -(u : Int) := by omega
    subst e0
    have E := hide (show posText s (A : Int) (-(u : Int)) br fa = parts A ++ [32, 45] ++ parts u from by rw [posText, if_pos h, posStr, if_pos hm, Int.natAbs_neg, Int.natAbs_natCast, Int.toNat_natCast])
    clear hu
    have l1 := parts_len A
    have l2 := parts_len u
    have k0a : ¬ 9223372036854775807 < (parts A).length + 2 := by omega
    have k1a : ¬ 9223372036854775807 < (parts A).length + 2 + (parts u).length := by omega
    have hp : (0 : Int) < (u : Int) := by omega
    have hw1 : IntKind.i64.wrap (u : Int) = (u : Int) := by rw [IntKind.wrap_i64]; omega
    obtain ⟨w0, hw0⟩ : ∃ w0, w0 = (w.alloc (.cells #[.string s, .int .i64 (A : Int), .int .i64 (-(u : Int)), .int .i64 br, .int .i64 fa] 45)) := ⟨_, rfl⟩
    have E0 := hide (show Below w.heap.size w w0 from hw0 ▸ (Below.refl _ _).alloc (Nat.le_refl _) _)
    have hz0 : w.heap.size < w0.heap.size := by rw [hw0]; simp
    have C0 := hide (show w0.cell? ⟨w.heap.size, 0, none⟩ = some (.string s) from by rw [hw0]; simp [go_sem])
    have C1 := hide (show w0.cell? ⟨w.heap.size, 1, none⟩ = some (.int .i64 (A : Int)) from by rw [hw0]; simp [go_sem])
    have C2 := hide (show w0.cell? ⟨w.heap.size, 2, none⟩ = some (.int .i64 (-(u : Int))) from by rw [hw0]; simp [go_sem])
    have C3 := hide (show w0.cell? ⟨w.heap.size, 3, none⟩ = some (.int .i64 br) from by rw [hw0]; simp [go_sem])
    have C4 := hide (show w0.cell? ⟨w.heap.size, 4, none⟩ = some (.int .i64 fa) from by rw [hw0]; simp [go_sem])
    have HW0 := hide hw0
    clear hw0
    go_enter Tryd.func34, Tryd.ntmps34
    go_wp2_with fail
    rw [← HW0.out]
    refine (impl_isStar_any s (A : Int) (-(u : Int)) br fa _ gs).mono ?_
    rintro e w1 ⟨rfl, b⟩
    have BX := hide b
    have BB := hide (E0.out.trans (b.mono E0.out.size))
    have x0 := (BX.out.cell (p := ⟨w.heap.size, 0, none⟩) hz0).trans C0.out
    have x1 := (BX.out.cell (p := ⟨w.heap.size, 1, none⟩) hz0).trans C1.out
    have x2 := (BX.out.cell (p := ⟨w.heap.size, 2, none⟩) hz0).trans C2.out
    have x3 := (BX.out.cell (p := ⟨w.heap.size, 3, none⟩) hz0).trans C3.out
    have x4 := (BX.out.cell (p := ⟨w.heap.size, 4, none⟩) hz0).trans C4.out
    clear b
    go_wp2_with fail
    have UU := hide ((Below.refl w1.heap.size w1).drew)
    have hzi : w.heap.size < w1.heap.size := by have := BB.out.size; have := E0.out.size; first | omega | (have := BX.out.size; omega)
    go_region_held3 (fun w' => w'.cell? ⟨w.heap.size, 0, none⟩ = some (.string s) ∧ w'.cell? ⟨w.heap.size, 1, none⟩ = some (.int .i64 (A : Int)) ∧ w'.cell? ⟨w.heap.size, 2, none⟩ = some (.int .i64 (-(u : Int))) ∧ w'.cell? ⟨w.heap.size, 3, none⟩ = some (.int .i64 br) ∧ w'.cell? ⟨w.heap.size, 4, none⟩ = some (.int .i64 fa)) (go_keep)
      (first | (go_at_call_of 58 (Value.int IntKind.i64 (-(u : Int))); refine (absAt u (by omega) (by omega) _).mono ?_; rintro e w' ⟨rfl, rfl⟩) | (go_at_call_of 70 (Value.int IntKind.i64 (A : Int)); refine (sexagesimal_at A rfl (by omega) _ (HT.out.below (BB.out.trans (UU.out.mono BB.out.size)))).mono ?_; rintro e wx ⟨rfl, b⟩; have UU_ := hide (UU.out.trans (b.mono UU.out.size)); clear UU; have UU := UU_; clear UU_; have y0 := (UU.out.cell (p := ⟨w.heap.size, 0, none⟩) hzi).trans x0; have y1 := (UU.out.cell (p := ⟨w.heap.size, 1, none⟩) hzi).trans x1; have y2 := (UU.out.cell (p := ⟨w.heap.size, 2, none⟩) hzi).trans x2; have y3 := (UU.out.cell (p := ⟨w.heap.size, 3, none⟩) hzi).trans x3; have y4 := (UU.out.cell (p := ⟨w.heap.size, 4, none⟩) hzi).trans x4) | (go_at_call_of 70 (Value.int IntKind.i64 (u : Int)); refine (sexagesimal_at u rfl (by omega) _ (HT.out.below (BB.out.trans (UU.out.mono BB.out.size)))).mono ?_; rintro e wx ⟨rfl, b⟩; have UU_ := hide (UU.out.trans (b.mono UU.out.size)); clear UU; have UU := UU_; clear UU_; have y0 := (UU.out.cell (p := ⟨w.heap.size, 0, none⟩) hzi).trans x0; have y1 := (UU.out.cell (p := ⟨w.heap.size, 1, none⟩) hzi).trans x1; have y2 := (UU.out.cell (p := ⟨w.heap.size, 2, none⟩) hzi).trans x2; have y3 := (UU.out.cell (p := ⟨w.heap.size, 3, none⟩) hzi).trans x3; have y4 := (UU.out.cell (p := ⟨w.heap.size, 4, none⟩) hzi).trans x4))
    all_goals
      go_wp2
      go_ret
      exact ⟨ret_strD (by rw [E.out]; first | exact text3 _ [32, 45] _ | simp), BB.out.trans (UU.out.mono BB.out.size)⟩
  · obtain ⟨u, rfl⟩ := Int.eq_ofNat_of_zero_le hm
    have E := hide (show posText s (A : Int) (u : Int) br fa = parts A ++ [32, 43] ++ parts u from by rw [posText, if_pos h, posStr, if_neg (by omega), Int.natAbs_natCast, Int.toNat_natCast])
    have l1 := parts_len A
    have l2 := parts_len u
    have k0a : ¬ 9223372036854775807 < (parts A).length + 2 := by omega
    have k1a : ¬ 9223372036854775807 < (parts A).length + 2 + (parts u).length := by omega
    have hp : ¬ (u : Int) < 0 := by omega
    have hw1 : IntKind.i64.wrap (u : Int) = (u : Int) := by rw [IntKind.wrap_i64]; omega
    obtain ⟨w0, hw0⟩ : ∃ w0, w0 = (w.alloc (.cells #[.string s, .int .i64 (A : Int), .int .i64 ((u : Int)), .int .i64 br, .int .i64 fa] 45)) := ⟨_, rfl⟩
    have E0 := hide (show Below w.heap.size w w0 from hw0 ▸ (Below.refl _ _).alloc (Nat.le_refl _) _)
    have hz0 : w.heap.size < w0.heap.size := by rw [hw0]; simp
    have C0 := hide (show w0.cell? ⟨w.heap.size, 0, none⟩ = some (.string s) from by rw [hw0]; simp [go_sem])
    have C1 := hide (show w0.cell? ⟨w.heap.size, 1, none⟩ = some (.int .i64 (A : Int)) from by rw [hw0]; simp [go_sem])
    have C2 := hide (show w0.cell? ⟨w.heap.size, 2, none⟩ = some (.int .i64 ((u : Int))) from by rw [hw0]; simp [go_sem])
    have C3 := hide (show w0.cell? ⟨w.heap.size, 3, none⟩ = some (.int .i64 br) from by rw [hw0]; simp [go_sem])
    have C4 := hide (show w0.cell? ⟨w.heap.size, 4, none⟩ = some (.int .i64 fa) from by rw [hw0]; simp [go_sem])
    have HW0 := hide hw0
    clear hw0
    go_enter Tryd.func34, Tryd.ntmps34
    go_wp2_with fail
    rw [← HW0.out]
    refine (impl_isStar_any s (A : Int) ((u : Int)) br fa _ gs).mono ?_
    rintro e w1 ⟨rfl, b⟩
    have BX := hide b
    have BB := hide (E0.out.trans (b.mono E0.out.size))
    have x0 := (BX.out.cell (p := ⟨w.heap.size, 0, none⟩) hz0).trans C0.out
    have x1 := (BX.out.cell (p := ⟨w.heap.size, 1, none⟩) hz0).trans C1.out
    have x2 := (BX.out.cell (p := ⟨w.heap.size, 2, none⟩) hz0).trans C2.out
    have x3 := (BX.out.cell (p := ⟨w.heap.size, 3, none⟩) hz0).trans C3.out
    have x4 := (BX.out.cell (p := ⟨w.heap.size, 4, none⟩) hz0).trans C4.out
    clear b
    go_wp2_with fail
    have UU := hide ((Below.refl w1.heap.size w1).drew)
    have hzi : w.heap.size < w1.heap.size := by have := BB.out.size; have := E0.out.size; first | omega | (have := BX.out.size; omega)
    go_region_held3 (fun w' => w'.cell? ⟨w.heap.size, 0, none⟩ = some (.string s) ∧ w'.cell? ⟨w.heap.size, 1, none⟩ = some (.int .i64 (A : Int)) ∧ w'.cell? ⟨w.heap.size, 2, none⟩ = some (.int .i64 ((u : Int))) ∧ w'.cell? ⟨w.heap.size, 3, none⟩ = some (.int .i64 br) ∧ w'.cell? ⟨w.heap.size, 4, none⟩ = some (.int .i64 fa)) (go_keep)
      (first | (go_at_call_of 58 (Value.int IntKind.i64 ((u : Int))); refine (absAt u (by omega) (by omega) _).mono ?_; rintro e w' ⟨rfl, rfl⟩) | (go_at_call_of 70 (Value.int IntKind.i64 (A : Int)); refine (sexagesimal_at A rfl (by omega) _ (HT.out.below (BB.out.trans (UU.out.mono BB.out.size)))).mono ?_; rintro e wx ⟨rfl, b⟩; have UU_ := hide (UU.out.trans (b.mono UU.out.size)); clear UU; have UU := UU_; clear UU_; have y0 := (UU.out.cell (p := ⟨w.heap.size, 0, none⟩) hzi).trans x0; have y1 := (UU.out.cell (p := ⟨w.heap.size, 1, none⟩) hzi).trans x1; have y2 := (UU.out.cell (p := ⟨w.heap.size, 2, none⟩) hzi).trans x2; have y3 := (UU.out.cell (p := ⟨w.heap.size, 3, none⟩) hzi).trans x3; have y4 := (UU.out.cell (p := ⟨w.heap.size, 4, none⟩) hzi).trans x4) | (go_at_call_of 70 (Value.int IntKind.i64 (u : Int)); refine (sexagesimal_at u rfl (by omega) _ (HT.out.below (BB.out.trans (UU.out.mono BB.out.size)))).mono ?_; rintro e wx ⟨rfl, b⟩; have UU_ := hide (UU.out.trans (b.mono UU.out.size)); clear UU; have UU := UU_; clear UU_; have y0 := (UU.out.cell (p := ⟨w.heap.size, 0, none⟩) hzi).trans x0; have y1 := (UU.out.cell (p := ⟨w.heap.size, 1, none⟩) hzi).trans x1; have y2 := (UU.out.cell (p := ⟨w.heap.size, 2, none⟩) hzi).trans x2; have y3 := (UU.out.cell (p := ⟨w.heap.size, 3, none⟩) hzi).trans x3; have y4 := (UU.out.cell (p := ⟨w.heap.size, 4, none⟩) hzi).trans x4))
    all_goals
      go_wp2
      go_ret
      exact ⟨ret_strD (by rw [E.out]; first | exact text3 _ [32, 43] _ | simp), BB.out.trans (UU.out.mono BB.out.size)⟩
theorem szStar_len (a0 : ByteArray) (a1 a2 a3 a4 left : Int) (w : World) (h : 0 ≤ left) (k : left ≤ 1048576) (h0 : okS a0) : Calls Tryd.prog 31 #[.agg #[.string a0, .int .i64 a1, .int .i64 a2, .int .i64 a3, .int .i64 a4], .int .i64 left] w (SzPost left a0.size w) := by
  unfold okS maxLen at h0
  by_cases c1 : left - (a0.size : Int) < 0
  · go_enter Tryd.func31, Tryd.ntmps31
    go_wp2
    go_ret
    exact ⟨_, rfl, by omega, (by repeat (first | exact Below.refl _ _ | assumption | refine Below.drew ?_ | refine below_drewN ?_ _ | refine Below.alloc ?_ (by first | omega | (simp; done) | (simp; omega)) _ | refine Below.setCell ?_ (by first | omega | (simp; done) | (simp; omega)) _ | refine Below.trans ?_ (Below.mono (by assumption) (by first | omega | (simp; done) | (simp; omega)))))⟩
  · go_enter Tryd.func31, Tryd.ntmps31
    go_wp2
    go_ret
    exact ⟨_, rfl, by omega, (by repeat (first | exact Below.refl _ _ | assumption | refine Below.drew ?_ | refine below_drewN ?_ _ | refine Below.alloc ?_ (by first | omega | (simp; done) | (simp; omega)) _ | refine Below.setCell ?_ (by first | omega | (simp; done) | (simp; omega)) _ | refine Below.trans ?_ (Below.mono (by assumption) (by first | omega | (simp; done) | (simp; omega)))))⟩
theorem txtf_end : True := trivial
end Go.Proofs.YtdplmbndafmlgaaDoor
