/-
  PROVES: the law 'FnExactAddStar' returns true for every input that can be read, and leaves its arguments as they were. It has no conditions.
-/
import Derived.Test.YtldgelkgobocdaaRows
import Derived.Test.YtldgelkgobocdaaPl
import Derived.Test.YtldgelkgobocdaaFr
import Derived.Test.YtldgelkgobocdaaCut
import Derived.Test.YtldgelkgobocdaaAddQS
import Derived.Test.YtldgelkgobocdaaMarkS
import Derived.Test.YtldgelkgobocdaaRecS
import Derived.WalkKit
import Derived.ProofKit
import Derived.OpenShut
import Derived.ShutString
import Derived.ChangeOld
import Derived.Below
namespace Go.Proofs.Ytldgelkgobocdaa.fnExactAddStar
open Go.ChangeShapes Go.WideShapes Go.ChangeAt Go.RowKit Pl
open Go.ChangeMaps (open_string shut_string)
set_option linter.unusedVariables false
set_option linter.unusedSimpArgs false

theorem own : ownKnob Try.prog.godebug = none := by kernel_rfl
theorem laidOut : laidOutB Try.prog = true := by kernel_rfl

set_option maxRecDepth 100000 in
set_option maxHeartbeats 8000000 in
theorem walk (A0 : Option Addr) (c0 : Nat) (l0 : List StarT) (a1_0 : ByteArray) (a1_1 : Int) (a1_2 : Int) (a1_3 : Int) (a1_4 : Int) (w : World) (hc0 : l0.length ≤ c0) (hm0 : c0 ≤ maxLen) (hr0 : Rd w w.heap.size 5 A0 l0.length (l0.flatMap StarT.cells)) (hk0 : ∀ x ∈ l0, StarT.ok x) (w1_0 : okS a1_0) (w1_1 : okI a1_1) (w1_2 : okI a1_2) (w1_3 : okI a1_3) (w1_4 : okI a1_4) :
    Calls Try.prog 13 #[.slice A0 l0.length c0, .agg #[.string a1_0, .int .i64 a1_1, .int .i64 a1_2, .int .i64 a1_3, .int .i64 a1_4]] w fun e w' => e = .returned (.bool true) ∧ Below w.heap.size w w' := by
  have hsx : a1_0.size ≤ maxLen := w1_0
  have HR0 := hide hr0
  have O0 := hide hk0
  clear hr0 hk0
  obtain ⟨w0, hw0⟩ : ∃ w0, w0 = w.alloc (.cells #[.string a1_0, .int .i64 a1_1, .int .i64 a1_2, .int .i64 a1_3, .int .i64 a1_4] 81) := ⟨_, rfl⟩
  have E0 := hide (show Below w.heap.size w w0 from hw0 ▸ (Below.refl _ _).alloc (Nat.le_refl _) _)
  have hz0 : w.heap.size < w0.heap.size := by rw [hw0]; simp
  have C0 := hide (show w0.cell? ⟨w.heap.size, 0, none⟩ = some (.string a1_0) from by rw [hw0]; simp [go_sem])
  have C1 := hide (show w0.cell? ⟨w.heap.size, 1, none⟩ = some (.int .i64 a1_1) from by rw [hw0]; simp [go_sem])
  have C2 := hide (show w0.cell? ⟨w.heap.size, 2, none⟩ = some (.int .i64 a1_2) from by rw [hw0]; simp [go_sem])
  have C3 := hide (show w0.cell? ⟨w.heap.size, 3, none⟩ = some (.int .i64 a1_3) from by rw [hw0]; simp [go_sem])
  have C4 := hide (show w0.cell? ⟨w.heap.size, 4, none⟩ = some (.int .i64 a1_4) from by rw [hw0]; simp [go_sem])
  have HR0_ := hide ((HR0.out.below E0.out).more E0.out.size)
  clear HR0
  have HR0 := HR0_
  clear HR0_
  have HW0 := hide hw0
  clear hw0
  have T0 := hide (Below.refl w0.heap.size w0)
  go_enter Try.func13, Try.ntmps13
  go_wp2_with fail
  rw [← HW0.out]
  go_wp2_with fail
  refine (szStarS_any A0 c0 l0 _ _ (by omega) (by omega) (Nat.le_trans hc0 hm0) ((HR0.out.below T0.out).more T0.out.size) O0.out).mono ?_
  rintro e w1 ⟨r0, rfl, hs0, b⟩
  rcases hs0 with rfl | ⟨hs0, ht0⟩
  · go_wp2
    go_ret
    exact ⟨rfl, E0.out.trans ((T0.out.trans (b.mono T0.out.size)).mono E0.out.size)⟩
  have hn0 : l0.length ≤ 1048576 := by omega
  have T1 := hide (T0.out.trans (b.mono T0.out.size))
  clear b
  have x0 := (T1.out.cell (p := ⟨w.heap.size, 0, none⟩) hz0).trans C0.out
  have x1 := (T1.out.cell (p := ⟨w.heap.size, 1, none⟩) hz0).trans C1.out
  have x2 := (T1.out.cell (p := ⟨w.heap.size, 2, none⟩) hz0).trans C2.out
  have x3 := (T1.out.cell (p := ⟨w.heap.size, 3, none⟩) hz0).trans C3.out
  have x4 := (T1.out.cell (p := ⟨w.heap.size, 4, none⟩) hz0).trans C4.out
  go_wp2_with fail
  refine (szStar_any _ _ _ _ _ _ _ (by omega) (by omega) (by assumption)).mono ?_
  rintro e w2 ⟨r1, rfl, hs1, b⟩
  rcases hs1 with rfl | ⟨hs1, ht1⟩
  · go_wp2
    go_ret
    exact ⟨rfl, E0.out.trans ((T1.out.trans (b.mono T1.out.size)).mono E0.out.size)⟩
  have T2 := hide (T1.out.trans (b.mono T1.out.size))
  clear b
  clear x0 x1 x2 x3 x4
  obtain ⟨⟨res, code⟩, hF⟩ : ∃ p, p = addStar l0 ({name := a1_0, asc := a1_1, dec := a1_2, bri := a1_3, fai := a1_4} : StarT) := ⟨_, rfl⟩
  have hres : res.length ≤ 1048576 := by have h := Nat.le_trans (addStar_max l0 {name := a1_0, asc := a1_1, dec := a1_2, bri := a1_3, fai := a1_4}) (show 1000 ≤ 1048576 from by omega); rw [← hF] at h; exact h
  have HF := hide hF
  clear hF
  go_upto_region 8 with fail
  have x0 := (T2.out.cell (p := ⟨w.heap.size, 0, none⟩) hz0).trans C0.out
  have x1 := (T2.out.cell (p := ⟨w.heap.size, 1, none⟩) hz0).trans C1.out
  have x2 := (T2.out.cell (p := ⟨w.heap.size, 2, none⟩) hz0).trans C2.out
  have x3 := (T2.out.cell (p := ⟨w.heap.size, 3, none⟩) hz0).trans C3.out
  have x4 := (T2.out.cell (p := ⟨w.heap.size, 4, none⟩) hz0).trans C4.out
  go_cut [6, 7] (fun sa sb wx => ∃ A' c', sa = .slice A' res.length c' ∧ sb = .int .i64 code ∧ Own wx w2.heap.size 85 5 A' res.length c' (res.flatMap StarT.cells) ∧ Below w2.heap.size w2 wx)
  case first =>
    have TT := hide ((Below.refl w2.heap.size w2).drew)
    have hzi : w.heap.size < w2.heap.size := by have := T2.out.size; omega
    go_region_held3 (fun w' => w'.cell? ⟨w.heap.size, 0, none⟩ = some (.string a1_0) ∧ w'.cell? ⟨w.heap.size, 1, none⟩ = some (.int .i64 a1_1) ∧ w'.cell? ⟨w.heap.size, 2, none⟩ = some (.int .i64 a1_2) ∧ w'.cell? ⟨w.heap.size, 3, none⟩ = some (.int .i64 a1_3) ∧ w'.cell? ⟨w.heap.size, 4, none⟩ = some (.int .i64 a1_4)) (go_keep)
      (first | (go_at_call 22; refine (toStarS_any A0 c0 l0 _ hn0 (((HR0.out.below T2.out).more T2.out.size).below TT.out |>.more TT.out.size)).mono ?_; rintro e wa ⟨rfl, b, k⟩; have KK := hide k; clear k; have TT_ := hide (TT.out.trans (b.mono TT.out.size)); clear TT; have TT := TT_; clear TT_; have y0 := (TT.out.cell (p := ⟨w.heap.size, 0, none⟩) hzi).trans x0; have y1 := (TT.out.cell (p := ⟨w.heap.size, 1, none⟩) hzi).trans x1; have y2 := (TT.out.cell (p := ⟨w.heap.size, 2, none⟩) hzi).trans x2; have y3 := (TT.out.cell (p := ⟨w.heap.size, 3, none⟩) hzi).trans x3; have y4 := (TT.out.cell (p := ⟨w.heap.size, 4, none⟩) hzi).trans x4) | (go_at_call 59; refine (toStar_any _ _ _ _ _ _).mono ?_; rintro e wb ⟨rfl, b⟩; have TT_ := hide (TT.out.trans (b.mono TT.out.size)); clear TT; have TT := TT_; clear TT_; have y0 := (TT.out.cell (p := ⟨w.heap.size, 0, none⟩) hzi).trans x0; have y1 := (TT.out.cell (p := ⟨w.heap.size, 1, none⟩) hzi).trans x1; have y2 := (TT.out.cell (p := ⟨w.heap.size, 2, none⟩) hzi).trans x2; have y3 := (TT.out.cell (p := ⟨w.heap.size, 3, none⟩) hzi).trans x3; have y4 := (TT.out.cell (p := ⟨w.heap.size, 4, none⟩) hzi).trans x4; try (have KK_ := hide (KK.out.below b KK.out.lt); clear KK; have KK := KK_; clear KK_)) | (go_at_call 58; refine (spec_AddStar_val HF.out _ _ _ _ (Nat.le_refl _) hn0 hsx O0.out (KK.out.readF StarT.cells_len KK.out.lt)).mono ?_; rintro e wd ⟨Az, cz, rfl, v, b⟩; have VV := hide (v.base TT.out.size); clear v; have TT_ := hide (TT.out.trans (b.mono TT.out.size)); clear TT; have TT := TT_; clear TT_; have y0 := (TT.out.cell (p := ⟨w.heap.size, 0, none⟩) hzi).trans x0; have y1 := (TT.out.cell (p := ⟨w.heap.size, 1, none⟩) hzi).trans x1; have y2 := (TT.out.cell (p := ⟨w.heap.size, 2, none⟩) hzi).trans x2; have y3 := (TT.out.cell (p := ⟨w.heap.size, 3, none⟩) hzi).trans x3; have y4 := (TT.out.cell (p := ⟨w.heap.size, 4, none⟩) hzi).trans x4))
    all_goals
      go_wp2_with fail
      go_meet
      exact ⟨Az, cz, rfl, rfl, VV.out, TT.out⟩
  case rest =>
    obtain ⟨AW, cW, rfl, rfl, v, b⟩ := hcut
    obtain ⟨w3, hwc⟩ : ∃ x, x = wc := ⟨_, rfl⟩
    subst hwc
    clear x0 x1 x2 x3 x4
    have W := hide v
    clear v
    have T3 := hide (T2.out.trans (b.mono T2.out.size))
    clear b
    have LW := hide T2.out.size
    go_wp2_with fail
    refine (toStarS_any A0 c0 l0 _ hn0 ((HR0.out.below T3.out).more T3.out.size)).mono ?_
    rintro e w4 ⟨rfl, b, k⟩
    have X0 := hide (Bk.ownF (lo := w3.heap.size) StarT.cells_len k (Nat.le_refl _) (by unfold maxLen; omega))
    have apWX0 := hide (W.out.apart X0.out (Nat.le_refl _))
    clear k
    have T4 := hide (T3.out.trans (b.mono T3.out.size))
    have W_ := hide (W.out.below b)
    clear W
    have W := W_
    clear W_
    clear b
    have LX0 := hide T3.out.size
    have x0 := (T4.out.cell (p := ⟨w.heap.size, 0, none⟩) hz0).trans C0.out
    have x1 := (T4.out.cell (p := ⟨w.heap.size, 1, none⟩) hz0).trans C1.out
    have x2 := (T4.out.cell (p := ⟨w.heap.size, 2, none⟩) hz0).trans C2.out
    have x3 := (T4.out.cell (p := ⟨w.heap.size, 3, none⟩) hz0).trans C3.out
    have x4 := (T4.out.cell (p := ⟨w.heap.size, 4, none⟩) hz0).trans C4.out
    go_wp2_with fail
    refine (toStar_any _ _ _ _ _ _).mono ?_
    rintro e w5 ⟨rfl, b⟩
    clear x0 x1 x2 x3 x4
    have T5 := hide (T4.out.trans (b.mono T4.out.size))
    have W_ := hide (W.out.below b)
    clear W
    have W := W_
    clear W_
    have X0_ := hide (X0.out.below b)
    clear X0
    have X0 := X0_
    clear X0_
    clear b
    go_wp2_with fail
    refine (impl_AddStar_val HF.out _ _ _ _ (Nat.le_refl _) hn0 hsx O0.out X0.out.rd).mono ?_
    rintro e w6 ⟨AG, cG, rfl, v, b⟩
    have G := hide v
    have apWG := hide (W.out.apart G.out (Nat.le_refl _))
    have apX0G := hide (X0.out.apart G.out (Nat.le_refl _))
    clear v
    have T6 := hide (T5.out.trans (b.mono T5.out.size))
    have W_ := hide (W.out.below b)
    clear W
    have W := W_
    clear W_
    have X0_ := hide (X0.out.below b)
    clear X0
    have X0 := X0_
    clear X0_
    clear b
    have LG := hide T5.out.size
    go_wp2_with fail
    refine (eqStarS_same _ _ _ _ res _ hres G.out.rd W.out.rd).mono ?_
    rintro e w7 ⟨rfl, b⟩
    have T7 := hide (T6.out.trans (b.mono T6.out.size))
    have W_ := hide (W.out.below b)
    clear W
    have W := W_
    clear W_
    have X0_ := hide (X0.out.below b)
    clear X0
    have X0 := X0_
    clear X0_
    have G_ := hide (G.out.below b)
    clear G
    have G := G_
    clear G_
    clear b
    go_wp2_with fail
    refine (toStarS_any A0 c0 l0 _ hn0 ((HR0.out.below T7.out).more T7.out.size)).mono ?_
    rintro e w8 ⟨rfl, b, k⟩
    have Z0 := hide (Bk.ownF (lo := w7.heap.size) StarT.cells_len k (Nat.le_refl _) (by unfold maxLen; omega))
    have apWZ0 := hide (W.out.apart Z0.out (Nat.le_refl _))
    have apX0Z0 := hide (X0.out.apart Z0.out (Nat.le_refl _))
    have apGZ0 := hide (G.out.apart Z0.out (Nat.le_refl _))
    clear k
    have T8 := hide (T7.out.trans (b.mono T7.out.size))
    have W_ := hide (W.out.below b)
    clear W
    have W := W_
    clear W_
    have X0_ := hide (X0.out.below b)
    clear X0
    have X0 := X0_
    clear X0_
    have G_ := hide (G.out.below b)
    clear G
    have G := G_
    clear G_
    clear b
    have LZ0 := hide T7.out.size
    go_wp2_with fail
    refine (eqStarS_same _ _ _ _ l0 _ hn0 X0.out.rd Z0.out.rd).mono ?_
    rintro e w9 ⟨rfl, b⟩
    have T9 := hide (T8.out.trans (b.mono T8.out.size))
    have W_ := hide (W.out.below b)
    clear W
    have W := W_
    clear W_
    have X0_ := hide (X0.out.below b)
    clear X0
    have X0 := X0_
    clear X0_
    have G_ := hide (G.out.below b)
    clear G
    have G := G_
    clear G_
    have Z0_ := hide (Z0.out.below b)
    clear Z0
    have Z0 := Z0_
    clear Z0_
    clear b
    clear Z0 LZ0
    go_wp2_with fail
    refine (markStarS_any _ _ _ 1 _ _ _ (by omega) (by omega) (by omega) X0.out).mono ?_
    rintro e w10 ⟨rfl, v, g⟩
    have T10 := hide (Below.only T9.out T9.out.size X0.out g LX0.out)
    have W_ := hide (W.out.far g apWX0.out)
    clear W
    have W := W_
    clear W_
    have G_ := hide (G.out.far g apX0G.out.symm)
    clear G
    have G := G_
    clear G_
    clear X0
    have X0 := hide v
    clear v g
    clear X0 LX0
    go_wp2_with fail
    refine (eqStarS_same _ _ _ _ res _ hres G.out.rd W.out.rd).mono ?_
    rintro e w11 ⟨rfl, b⟩
    have T11 := hide (T10.out.trans (b.mono T10.out.size))
    have W_ := hide (W.out.below b)
    clear W
    have W := W_
    clear W_
    have G_ := hide (G.out.below b)
    clear G
    have G := G_
    clear G_
    clear b
    go_wp2_with fail
    refine (markStarS_any _ _ _ 1 _ _ _ (by omega) (by omega) (by omega) G.out).mono ?_
    rintro e w12 ⟨rfl, v, g⟩
    have T12 := hide (Below.only T11.out T11.out.size G.out g LG.out)
    have W_ := hide (W.out.far g apWG.out)
    clear W
    have W := W_
    clear W_
    clear G
    have G := hide v
    clear v g
    go_wp2_with fail
    refine (heldStarS_any _ _ 1 _ _ (by omega) (by omega) (by omega) G.out.rd).mono ?_
    rintro e w13 ⟨rfl, b⟩
    have T13 := hide (T12.out.trans (b.mono T12.out.size))
    have W_ := hide (W.out.below b)
    clear W
    have W := W_
    clear W_
    have G_ := hide (G.out.below b)
    clear G
    have G := G_
    clear G_
    clear b
    go_upto_region 27 with fail
    have x0 := (T13.out.cell (p := ⟨w.heap.size, 0, none⟩) hz0).trans C0.out
    have x1 := (T13.out.cell (p := ⟨w.heap.size, 1, none⟩) hz0).trans C1.out
    have x2 := (T13.out.cell (p := ⟨w.heap.size, 2, none⟩) hz0).trans C2.out
    have x3 := (T13.out.cell (p := ⟨w.heap.size, 3, none⟩) hz0).trans C3.out
    have x4 := (T13.out.cell (p := ⟨w.heap.size, 4, none⟩) hz0).trans C4.out
    go_cut [14, 15] (fun sa sb wx => ∃ A' c', sa = .slice A' res.length c' ∧ sb = .int .i64 code ∧ Own wx w13.heap.size 85 5 A' res.length c' (res.flatMap StarT.cells) ∧ Below w13.heap.size w13 wx)
    case first =>
      have TT := hide ((Below.refl w13.heap.size w13).drew)
      have hzi : w.heap.size < w13.heap.size := by have := T13.out.size; omega
      go_region_held3 (fun w' => w'.cell? ⟨w.heap.size, 0, none⟩ = some (.string a1_0) ∧ w'.cell? ⟨w.heap.size, 1, none⟩ = some (.int .i64 a1_1) ∧ w'.cell? ⟨w.heap.size, 2, none⟩ = some (.int .i64 a1_2) ∧ w'.cell? ⟨w.heap.size, 3, none⟩ = some (.int .i64 a1_3) ∧ w'.cell? ⟨w.heap.size, 4, none⟩ = some (.int .i64 a1_4)) (go_keep)
        (first | (go_at_call 22; refine (toStarS_any A0 c0 l0 _ hn0 (((HR0.out.below T13.out).more T13.out.size).below TT.out |>.more TT.out.size)).mono ?_; rintro e wa ⟨rfl, b, k⟩; have KK := hide k; clear k; have TT_ := hide (TT.out.trans (b.mono TT.out.size)); clear TT; have TT := TT_; clear TT_; have y0 := (TT.out.cell (p := ⟨w.heap.size, 0, none⟩) hzi).trans x0; have y1 := (TT.out.cell (p := ⟨w.heap.size, 1, none⟩) hzi).trans x1; have y2 := (TT.out.cell (p := ⟨w.heap.size, 2, none⟩) hzi).trans x2; have y3 := (TT.out.cell (p := ⟨w.heap.size, 3, none⟩) hzi).trans x3; have y4 := (TT.out.cell (p := ⟨w.heap.size, 4, none⟩) hzi).trans x4) | (go_at_call 59; refine (toStar_any _ _ _ _ _ _).mono ?_; rintro e wb ⟨rfl, b⟩; have TT_ := hide (TT.out.trans (b.mono TT.out.size)); clear TT; have TT := TT_; clear TT_; have y0 := (TT.out.cell (p := ⟨w.heap.size, 0, none⟩) hzi).trans x0; have y1 := (TT.out.cell (p := ⟨w.heap.size, 1, none⟩) hzi).trans x1; have y2 := (TT.out.cell (p := ⟨w.heap.size, 2, none⟩) hzi).trans x2; have y3 := (TT.out.cell (p := ⟨w.heap.size, 3, none⟩) hzi).trans x3; have y4 := (TT.out.cell (p := ⟨w.heap.size, 4, none⟩) hzi).trans x4; try (have KK_ := hide (KK.out.below b KK.out.lt); clear KK; have KK := KK_; clear KK_)) | (go_at_call 60; refine (impl_AddStar_val HF.out _ _ _ _ (Nat.le_refl _) hn0 hsx O0.out (KK.out.readF StarT.cells_len KK.out.lt)).mono ?_; rintro e wd ⟨Az, cz, rfl, v, b⟩; have VV := hide (v.base TT.out.size); clear v; have TT_ := hide (TT.out.trans (b.mono TT.out.size)); clear TT; have TT := TT_; clear TT_; have y0 := (TT.out.cell (p := ⟨w.heap.size, 0, none⟩) hzi).trans x0; have y1 := (TT.out.cell (p := ⟨w.heap.size, 1, none⟩) hzi).trans x1; have y2 := (TT.out.cell (p := ⟨w.heap.size, 2, none⟩) hzi).trans x2; have y3 := (TT.out.cell (p := ⟨w.heap.size, 3, none⟩) hzi).trans x3; have y4 := (TT.out.cell (p := ⟨w.heap.size, 4, none⟩) hzi).trans x4))
      all_goals
        go_wp2_with fail
        go_meet
        exact ⟨Az, cz, rfl, rfl, VV.out, TT.out⟩
    case rest =>
      obtain ⟨AH, cH, rfl, rfl, v, b⟩ := hcut
      obtain ⟨w14, hwc⟩ : ∃ x, x = wc := ⟨_, rfl⟩
      subst hwc
      clear x0 x1 x2 x3 x4
      have H := hide v
      have apWH := hide (W.out.apart H.out (Nat.le_refl _))
      have apGH := hide (G.out.apart H.out (Nat.le_refl _))
      clear v
      have T14 := hide (T13.out.trans (b.mono T13.out.size))
      have W_ := hide (W.out.below b)
      clear W
      have W := W_
      clear W_
      have G_ := hide (G.out.below b)
      clear G
      have G := G_
      clear G_
      clear b
      have LH := hide T13.out.size
      go_wp2_with fail
      refine (eqStarS_same _ _ _ _ res _ hres H.out.rd W.out.rd).mono ?_
      rintro e w15 ⟨rfl, b⟩
      have T15 := hide (T14.out.trans (b.mono T14.out.size))
      have W_ := hide (W.out.below b)
      clear W
      have W := W_
      clear W_
      have G_ := hide (G.out.below b)
      clear G
      have G := G_
      clear G_
      have H_ := hide (H.out.below b)
      clear H
      have H := H_
      clear H_
      clear b
      go_wp2_with fail
      refine (heldStarS_any _ _ 1 _ _ (by omega) (by omega) (by omega) G.out.rd).mono ?_
      rintro e w16 ⟨rfl, b⟩
      have T16 := hide (T15.out.trans (b.mono T15.out.size))
      have W_ := hide (W.out.below b)
      clear W
      have W := W_
      clear W_
      have G_ := hide (G.out.below b)
      clear G
      have G := G_
      clear G_
      have H_ := hide (H.out.below b)
      clear H
      have H := H_
      clear H_
      clear b
      go_wp2
      go_ret
      exact ⟨rfl, E0.out.trans (T16.out.mono E0.out.size)⟩

set_option maxRecDepth 100000 in
theorem lifted (os : Os) (started : os.Started) (H : Type) (enc : TypeId × Value → H) :
    ReturnsInHanded {} Try.checked os 13 .any (Rows.fnExactAddStarSpec.pre6 enc Try.prog Try.f13 Rows.fnExactAddStarRow.domain false) (Rows.fnExactAddStarSpec.post enc Try.prog Try.f13 false true false false) := by
  refine returnsInHanded_of_change (C := Try.checked) own started (by kernel_rfl) Try.func13
    (ChangeSpec.witness6 (enc := enc) (C := Try.checked) false ⟨#[], #[.slice none 0 0, .agg #[.string ⟨#[]⟩, .int .i64 0, .int .i64 0, .int .i64 0, .int .i64 0]], []⟩ 8 (by kernel_rfl) (by kernel_rfl) (by kernel_rfl) (by kernel_rfl)) ?_
  intro W base args ds gs before hval0 hW hcnd _
  have hval : ∀ (j : Nat) t v, Try.f13.params[j]? = some t → args[j]? = some v → Value.okWide Try.prog W .any base t v := hval0
  have hW' := hW
  obtain ⟨p, q, hA0, hV, rfl, hfz, hnd⟩ := hW
  have hA : DataW.TrodAll enc Try.prog W 0 (fun _ => true) true Try.f13.params.toList args.toList ds p := hA0
  rw [Try.params13] at hA hval
  obtain ⟨v0, vs0, d0, ds0, p0, q0, hargs, rfl, rfl, h0, r0⟩ := trodAll_cons hA
  obtain ⟨v1, vs1, d1, ds1, p1, q1, rfl, rfl, rfl, h1, r1⟩ := trodAll_cons r0
  obtain ⟨rfl, rfl, rfl⟩ := trodAll_nil r1
  obtain rfl : args = #[v0, v1] := by cases args; simp_all
  obtain ⟨rfl, rfl⟩ := trodVars_none hV
  clear hA0 hval0 hnd hfz
  have k0 := h0
  have lt0 : ∀ x ∈ p0, x.block < W.heap.size := by obtain ⟨m, hm⟩ := k0; exact DataW.trod_lt m _ _ _ hm
  have k1 := h1
  have lt1 : ∀ x ∈ p1, x.block < W.heap.size := by obtain ⟨m, hm⟩ := k1; exact DataW.trod_lt m _ _ _ hm
  obtain ⟨A0, n0, c0, rfl⟩ := okWide_slice Try.underlying30 (hval 0 30 v0 rfl rfl)
  obtain ⟨hc0, hm0, l0, rfl, hr0, hk0⟩ := open_StarS h0
  obtain ⟨q, rfl, hq, kk, hf⟩ := record_of Try.underlying81 (by kernel_rfl) (by kernel_rfl) (hval 1 81 v1 rfl rfl) h1
  obtain ⟨u0, u1, u2, u3, u4, rfl⟩ := len5 hq
  obtain ⟨u, y, e0, t0⟩ := hf 0 _ rfl
  simp at e0
  subst e0
  obtain ⟨a1_0, e1, _, w1_0⟩ := DataW.trod_string Try.underlying9 t0
  simp at e1
  subst e1
  obtain ⟨u, y, e0, t0⟩ := hf 1 _ rfl
  simp at e0
  subst e0
  obtain ⟨a1_1, e1, _, w1_1⟩ := DataW.trod_int Try.underlying2 t0
  simp at e1
  subst e1
  obtain ⟨u, y, e0, t0⟩ := hf 2 _ rfl
  simp at e0
  subst e0
  obtain ⟨a1_2, e1, _, w1_2⟩ := DataW.trod_int Try.underlying2 t0
  simp at e1
  subst e1
  obtain ⟨u, y, e0, t0⟩ := hf 3 _ rfl
  simp at e0
  subst e0
  obtain ⟨a1_3, e1, _, w1_3⟩ := DataW.trod_int Try.underlying2 t0
  simp at e1
  subst e1
  obtain ⟨u, y, e0, t0⟩ := hf 4 _ rfl
  simp at e0
  subst e0
  obtain ⟨a1_4, e1, _, w1_4⟩ := DataW.trod_int Try.underlying2 t0
  simp at e1
  subst e1
  clear hq hf
  refine (walk A0 c0 l0 a1_0 a1_1 a1_2 a1_3 a1_4 W hc0 hm0 hr0 hk0 w1_0 w1_1 w1_2 w1_3 w1_4).mono fun e W' ⟨he, bel⟩ => ?_
  subst he
  exact ⟨_, rfl, _, _, _, [], _, [], hW', trodAll_mk1 (shut_bool Try.underlying4 _), (trodAll_cons_mk (Below.trod laidOut (by kernel_rfl) (of_decide_eq_true (by kernel_rfl)) k0 bel lt0) (trodAll_cons_mk (Below.trod laidOut (by kernel_rfl) (of_decide_eq_true (by kernel_rfl)) k1 bel lt1) trodAll_mk0)), rfl, bel.frame _, fun h => by cases h⟩

theorem over : Rows.fnExactAddStarRow.holds Try.pinned (OpenSpec.ofChange Rows.fnExactAddStarSpec) :=
  OpenClaim.holds_of_wide 13 Try.f13 rfl rfl rfl rfl rfl rfl rfl ⟨rfl, rfl, rfl, rfl, rfl⟩ rfl rfl rfl rfl rfl (by kernel_rfl) Try.func13 (by kernel_rfl)
    (of_decide_eq_true (by kernel_rfl)) (by unfold Func.isWrapper; first | (rw [if_pos (by decide +kernel)]; kernel_rfl) | (rw [if_neg (by decide +kernel)]; exact ⟨rfl, rfl⟩))
    (fun os started H enc _ => lifted os started H enc)

/-- The statement. -/
theorem proved : Rows.FnExactAddStarSaid := over
#print axioms proved
end Go.Proofs.Ytldgelkgobocdaa.fnExactAddStar
