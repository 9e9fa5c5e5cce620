/-
  PROVES: the law 'FnExactApplyShifts' returns true for every input that can be read, and leaves its arguments as they were. It has no conditions.
-/
import Derived.Test.YtldgelkgobocdaaRows
import Derived.Test.YtldgelkgobocdaaPl
import Derived.Test.YtldgelkgobocdaaFr
import Derived.Test.YtldgelkgobocdaaApply
import Derived.Test.YtldgelkgobocdaaMarkO
import Derived.Test.YtldgelkgobocdaaMarkI
import Derived.Test.YtldgelkgobocdaaRecO
import Derived.Test.YtldgelkgobocdaaRec
import Derived.WalkKit
import Derived.ProofKit
import Derived.OpenShut
import Derived.ShutString
import Derived.ChangeOld
import Derived.Below
namespace Go.Proofs.Ytldgelkgobocdaa.fnExactApplyShifts
open Go.ChangeShapes Go.WideShapes Go.ChangeAt Go.RowKit Pl
open Go.ChangeMaps (open_string shut_string)
set_option linter.unusedVariables false
set_option linter.unusedSimpArgs false

theorem own : ownKnob Try.prog.godebug = none := by kernel_rfl
theorem laidOut : laidOutB Try.prog = true := by kernel_rfl

theorem walk (A0 : Option Addr) (c0 : Nat) (l0 : List ObsT) (A1 : Option Addr) (c1 : Nat) (l1 : List Int) (w : World) (hc0 : l0.length ≤ c0) (hm0 : c0 ≤ maxLen) (hr0 : Rd w w.heap.size 2 A0 l0.length (l0.flatMap ObsT.cells)) (hk0 : ∀ x ∈ l0, ObsT.ok x) (hc1 : l1.length ≤ c1) (hm1 : c1 ≤ maxLen) (hr1 : Rd w w.heap.size 1 A1 l1.length (ints l1)) (hk1 : ∀ x ∈ l1, okI x) :
    Calls Try.prog 8 #[.slice A0 l0.length c0, .slice A1 l1.length c1] w fun e w' => e = .returned (.bool true) ∧ Below w.heap.size w w' := by
  have HR0 := hide hr0
  have O0 := hide hk0
  have HR1 := hide hr1
  have O1 := hide hk1
  clear hr0 hk0 hr1 hk1
  have T0 := hide (Below.refl w.heap.size w)
  by_cases hq1 : 1048576 < l1.length
  · unfold maxLen at hm1
    go_enter Try.func8, Try.ntmps8
    go_wp2
    go_ret
    exact ⟨rfl, T0.out⟩
  have hn1 : l1.length ≤ 1048576 := by omega
  clear hq1
  go_enter Try.func8, Try.ntmps8
  go_wp2_with fail
  refine (szObserverS_any A0 c0 l0 _ _ (by omega) (by omega) (Nat.le_trans hc0 hm0) ((HR0.out.below T0.out).more T0.out.size) O0.out).mono ?_
  rintro e w1 ⟨r0, rfl, hs0, b⟩
  rcases hs0 with rfl | ⟨hs0, ht0⟩
  · go_wp2
    go_ret
    exact ⟨rfl, (T0.out.trans (b.mono T0.out.size))⟩
  have hn0 : l0.length ≤ 1048576 := by omega
  have T1 := hide (T0.out.trans (b.mono T0.out.size))
  clear b
  obtain ⟨⟨res, code⟩, hF⟩ : ∃ p, p = appOf l0 l1 := ⟨_, rfl⟩
  have hres : res.length ≤ 1048576 := by have h := Nat.le_trans (appOf_le l0 l1) hn0; rw [← hF] at h; exact h
  have HF := hide hF
  clear hF
  go_wp2_with fail
  refine (toObserverS_any A0 c0 l0 _ hn0 ((HR0.out.below T1.out).more T1.out.size)).mono ?_
  rintro e w2 ⟨rfl, b, k⟩
  have Y0 := hide (Bk.ownF (lo := w1.heap.size) ObsT.cells_len k (Nat.le_refl _) (by unfold maxLen; omega))
  clear k
  have T2 := hide (T1.out.trans (b.mono T1.out.size))
  clear b
  have LY0 := hide T1.out.size
  go_wp2_with fail
  refine (toInt64S_any A1 c1 l1 _ hn1 ((HR1.out.below T2.out).more T2.out.size)).mono ?_
  rintro e w3 ⟨rfl, b, k⟩
  have Y1 := hide (Bk.ownI (lo := w2.heap.size)  k (Nat.le_refl _) (by unfold maxLen; omega))
  have apY0Y1 := hide (Y0.out.apart Y1.out (Nat.le_refl _))
  clear k
  have T3 := hide (T2.out.trans (b.mono T2.out.size))
  have Y0_ := hide (Y0.out.below b)
  clear Y0
  have Y0 := Y0_
  clear Y0_
  clear b
  have LY1 := hide T2.out.size
  go_wp2_with fail
  refine (spec_ApplyShifts_val HF.out _ _ _ _ _ hn0 hn1 O0.out Y0.out.rd Y1.out.rd).mono ?_
  rintro e w4 ⟨AW, cW, rfl, v, b⟩
  have W := hide v
  have apY0W := hide (Y0.out.apart W.out (Nat.le_refl _))
  have apY1W := hide (Y1.out.apart W.out (Nat.le_refl _))
  clear v
  have T4 := hide (T3.out.trans (b.mono T3.out.size))
  have Y0_ := hide (Y0.out.below b)
  clear Y0
  have Y0 := Y0_
  clear Y0_
  have Y1_ := hide (Y1.out.below b)
  clear Y1
  have Y1 := Y1_
  clear Y1_
  clear b
  have LW := hide T3.out.size
  clear Y0 LY0
  clear Y1 LY1
  go_wp2_with fail
  refine (toObserverS_any A0 c0 l0 _ hn0 ((HR0.out.below T4.out).more T4.out.size)).mono ?_
  rintro e w5 ⟨rfl, b, k⟩
  have X0 := hide (Bk.ownF (lo := w4.heap.size) ObsT.cells_len k (Nat.le_refl _) (by unfold maxLen; omega))
  have apWX0 := hide (W.out.apart X0.out (Nat.le_refl _))
  clear k
  have T5 := hide (T4.out.trans (b.mono T4.out.size))
  have W_ := hide (W.out.below b)
  clear W
  have W := W_
  clear W_
  clear b
  have LX0 := hide T4.out.size
  go_wp2_with fail
  refine (toInt64S_any A1 c1 l1 _ hn1 ((HR1.out.below T5.out).more T5.out.size)).mono ?_
  rintro e w6 ⟨rfl, b, k⟩
  have X1 := hide (Bk.ownI (lo := w5.heap.size)  k (Nat.le_refl _) (by unfold maxLen; omega))
  have apWX1 := hide (W.out.apart X1.out (Nat.le_refl _))
  have apX0X1 := hide (X0.out.apart X1.out (Nat.le_refl _))
  clear k
  have T6 := hide (T5.out.trans (b.mono T5.out.size))
  have W_ := hide (W.out.below b)
  clear W
  have W := W_
  clear W_
  have X0_ := hide (X0.out.below b)
  clear X0
  have X0 := X0_
  clear X0_
  clear b
  have LX1 := hide T5.out.size
  go_wp2_with fail
  refine (impl_ApplyShifts_val HF.out _ _ _ _ _ hn0 hn1 O0.out X0.out.rd X1.out.rd).mono ?_
  rintro e w7 ⟨AG, cG, rfl, v, b⟩
  have G := hide v
  have apWG := hide (W.out.apart G.out (Nat.le_refl _))
  have apX0G := hide (X0.out.apart G.out (Nat.le_refl _))
  have apX1G := hide (X1.out.apart G.out (Nat.le_refl _))
  clear v
  have T7 := hide (T6.out.trans (b.mono T6.out.size))
  have W_ := hide (W.out.below b)
  clear W
  have W := W_
  clear W_
  have X0_ := hide (X0.out.below b)
  clear X0
  have X0 := X0_
  clear X0_
  have X1_ := hide (X1.out.below b)
  clear X1
  have X1 := X1_
  clear X1_
  clear b
  have LG := hide T6.out.size
  go_wp2_with fail
  refine (eqObserverS_same _ _ _ _ res _ hres G.out.rd W.out.rd).mono ?_
  rintro e w8 ⟨rfl, b⟩
  have T8 := hide (T7.out.trans (b.mono T7.out.size))
  have W_ := hide (W.out.below b)
  clear W
  have W := W_
  clear W_
  have X0_ := hide (X0.out.below b)
  clear X0
  have X0 := X0_
  clear X0_
  have X1_ := hide (X1.out.below b)
  clear X1
  have X1 := X1_
  clear X1_
  have G_ := hide (G.out.below b)
  clear G
  have G := G_
  clear G_
  clear b
  go_wp2_with fail
  refine (toObserverS_any A0 c0 l0 _ hn0 ((HR0.out.below T8.out).more T8.out.size)).mono ?_
  rintro e w9 ⟨rfl, b, k⟩
  have Z0 := hide (Bk.ownF (lo := w8.heap.size) ObsT.cells_len k (Nat.le_refl _) (by unfold maxLen; omega))
  have apWZ0 := hide (W.out.apart Z0.out (Nat.le_refl _))
  have apX0Z0 := hide (X0.out.apart Z0.out (Nat.le_refl _))
  have apX1Z0 := hide (X1.out.apart Z0.out (Nat.le_refl _))
  have apGZ0 := hide (G.out.apart Z0.out (Nat.le_refl _))
  clear k
  have T9 := hide (T8.out.trans (b.mono T8.out.size))
  have W_ := hide (W.out.below b)
  clear W
  have W := W_
  clear W_
  have X0_ := hide (X0.out.below b)
  clear X0
  have X0 := X0_
  clear X0_
  have X1_ := hide (X1.out.below b)
  clear X1
  have X1 := X1_
  clear X1_
  have G_ := hide (G.out.below b)
  clear G
  have G := G_
  clear G_
  clear b
  have LZ0 := hide T8.out.size
  go_wp2_with fail
  refine (eqObserverS_same _ _ _ _ l0 _ hn0 X0.out.rd Z0.out.rd).mono ?_
  rintro e w10 ⟨rfl, b⟩
  have T10 := hide (T9.out.trans (b.mono T9.out.size))
  have W_ := hide (W.out.below b)
  clear W
  have W := W_
  clear W_
  have X0_ := hide (X0.out.below b)
  clear X0
  have X0 := X0_
  clear X0_
  have X1_ := hide (X1.out.below b)
  clear X1
  have X1 := X1_
  clear X1_
  have G_ := hide (G.out.below b)
  clear G
  have G := G_
  clear G_
  have Z0_ := hide (Z0.out.below b)
  clear Z0
  have Z0 := Z0_
  clear Z0_
  clear b
  clear Z0 LZ0
  go_wp2_with fail
  refine (toInt64S_any A1 c1 l1 _ hn1 ((HR1.out.below T10.out).more T10.out.size)).mono ?_
  rintro e w11 ⟨rfl, b, k⟩
  have Z1 := hide (Bk.ownI (lo := w10.heap.size)  k (Nat.le_refl _) (by unfold maxLen; omega))
  have apWZ1 := hide (W.out.apart Z1.out (Nat.le_refl _))
  have apX0Z1 := hide (X0.out.apart Z1.out (Nat.le_refl _))
  have apX1Z1 := hide (X1.out.apart Z1.out (Nat.le_refl _))
  have apGZ1 := hide (G.out.apart Z1.out (Nat.le_refl _))
  clear k
  have T11 := hide (T10.out.trans (b.mono T10.out.size))
  have W_ := hide (W.out.below b)
  clear W
  have W := W_
  clear W_
  have X0_ := hide (X0.out.below b)
  clear X0
  have X0 := X0_
  clear X0_
  have X1_ := hide (X1.out.below b)
  clear X1
  have X1 := X1_
  clear X1_
  have G_ := hide (G.out.below b)
  clear G
  have G := G_
  clear G_
  clear b
  have LZ1 := hide T10.out.size
  go_wp2_with fail
  refine (eqInt64S_same _ _ _ _ l1 _ hn1 X1.out.rd Z1.out.rd).mono ?_
  rintro e w12 ⟨rfl, b⟩
  have T12 := hide (T11.out.trans (b.mono T11.out.size))
  have W_ := hide (W.out.below b)
  clear W
  have W := W_
  clear W_
  have X0_ := hide (X0.out.below b)
  clear X0
  have X0 := X0_
  clear X0_
  have X1_ := hide (X1.out.below b)
  clear X1
  have X1 := X1_
  clear X1_
  have G_ := hide (G.out.below b)
  clear G
  have G := G_
  clear G_
  have Z1_ := hide (Z1.out.below b)
  clear Z1
  have Z1 := Z1_
  clear Z1_
  clear b
  clear Z1 LZ1
  go_wp2_with fail
  refine (markObserverS_any _ _ _ 1 _ _ _ (by omega) (by omega) (by omega) X0.out).mono ?_
  rintro e w13 ⟨rfl, v, g⟩
  have T13 := hide (Below.only T12.out T12.out.size X0.out g LX0.out)
  have W_ := hide (W.out.far g apWX0.out)
  clear W
  have W := W_
  clear W_
  have X1_ := hide (X1.out.far g apX0X1.out.symm)
  clear X1
  have X1 := X1_
  clear X1_
  have G_ := hide (G.out.far g apX0G.out.symm)
  clear G
  have G := G_
  clear G_
  clear X0
  have X0 := hide v
  clear v g
  go_wp2_with fail
  refine (markInt64S_any _ _ _ (1 + 2 * l0.length) _ _ _ hn1 (by omega) X1.out).mono ?_
  rintro e w14 ⟨rfl, v, g⟩
  have T14 := hide (Below.only T13.out T13.out.size X1.out g LX1.out)
  have W_ := hide (W.out.far g apWX1.out)
  clear W
  have W := W_
  clear W_
  have X0_ := hide (X0.out.far g apX0X1.out)
  clear X0
  have X0 := X0_
  clear X0_
  have G_ := hide (G.out.far g apX1G.out.symm)
  clear G
  have G := G_
  clear G_
  clear X1
  have X1 := hide v
  clear v g
  clear X0 LX0
  clear X1 LX1
  go_wp2_with fail
  refine (eqObserverS_same _ _ _ _ res _ hres G.out.rd W.out.rd).mono ?_
  rintro e w15 ⟨rfl, b⟩
  have T15 := hide (T14.out.trans (b.mono T14.out.size))
  have W_ := hide (W.out.below b)
  clear W
  have W := W_
  clear W_
  have G_ := hide (G.out.below b)
  clear G
  have G := G_
  clear G_
  clear b
  go_wp2_with fail
  refine (markObserverS_any _ _ _ 1 _ _ _ (by omega) (by omega) (by omega) G.out).mono ?_
  rintro e w16 ⟨rfl, v, g⟩
  have T16 := hide (Below.only T15.out T15.out.size G.out g LG.out)
  have W_ := hide (W.out.far g apWG.out)
  clear W
  have W := W_
  clear W_
  clear G
  have G := hide v
  clear v g
  go_wp2_with fail
  refine (heldObserverS_any _ _ 1 _ _ (by omega) (by omega) (by omega) G.out.rd).mono ?_
  rintro e w17 ⟨rfl, b⟩
  have T17 := hide (T16.out.trans (b.mono T16.out.size))
  have W_ := hide (W.out.below b)
  clear W
  have W := W_
  clear W_
  have G_ := hide (G.out.below b)
  clear G
  have G := G_
  clear G_
  clear b
  go_wp2_with fail
  refine (toObserverS_any A0 c0 l0 _ hn0 ((HR0.out.below T17.out).more T17.out.size)).mono ?_
  rintro e w18 ⟨rfl, b, k⟩
  have U0 := hide (Bk.ownF (lo := w17.heap.size) ObsT.cells_len k (Nat.le_refl _) (by unfold maxLen; omega))
  have apWU0 := hide (W.out.apart U0.out (Nat.le_refl _))
  have apGU0 := hide (G.out.apart U0.out (Nat.le_refl _))
  clear k
  have T18 := hide (T17.out.trans (b.mono T17.out.size))
  have W_ := hide (W.out.below b)
  clear W
  have W := W_
  clear W_
  have G_ := hide (G.out.below b)
  clear G
  have G := G_
  clear G_
  clear b
  have LU0 := hide T17.out.size
  go_wp2_with fail
  refine (toInt64S_any A1 c1 l1 _ hn1 ((HR1.out.below T18.out).more T18.out.size)).mono ?_
  rintro e w19 ⟨rfl, b, k⟩
  have U1 := hide (Bk.ownI (lo := w18.heap.size)  k (Nat.le_refl _) (by unfold maxLen; omega))
  have apWU1 := hide (W.out.apart U1.out (Nat.le_refl _))
  have apGU1 := hide (G.out.apart U1.out (Nat.le_refl _))
  have apU0U1 := hide (U0.out.apart U1.out (Nat.le_refl _))
  clear k
  have T19 := hide (T18.out.trans (b.mono T18.out.size))
  have W_ := hide (W.out.below b)
  clear W
  have W := W_
  clear W_
  have G_ := hide (G.out.below b)
  clear G
  have G := G_
  clear G_
  have U0_ := hide (U0.out.below b)
  clear U0
  have U0 := U0_
  clear U0_
  clear b
  have LU1 := hide T18.out.size
  go_wp2_with fail
  refine (impl_ApplyShifts_val HF.out _ _ _ _ _ hn0 hn1 O0.out U0.out.rd U1.out.rd).mono ?_
  rintro e w20 ⟨AH, cH, rfl, v, b⟩
  have H := hide v
  have apWH := hide (W.out.apart H.out (Nat.le_refl _))
  have apGH := hide (G.out.apart H.out (Nat.le_refl _))
  have apU0H := hide (U0.out.apart H.out (Nat.le_refl _))
  have apU1H := hide (U1.out.apart H.out (Nat.le_refl _))
  clear v
  have T20 := hide (T19.out.trans (b.mono T19.out.size))
  have W_ := hide (W.out.below b)
  clear W
  have W := W_
  clear W_
  have G_ := hide (G.out.below b)
  clear G
  have G := G_
  clear G_
  have U0_ := hide (U0.out.below b)
  clear U0
  have U0 := U0_
  clear U0_
  have U1_ := hide (U1.out.below b)
  clear U1
  have U1 := U1_
  clear U1_
  clear b
  have LH := hide T19.out.size
  clear U0 LU0
  clear U1 LU1
  go_wp2_with fail
  refine (eqObserverS_same _ _ _ _ res _ hres H.out.rd W.out.rd).mono ?_
  rintro e w21 ⟨rfl, b⟩
  have T21 := hide (T20.out.trans (b.mono T20.out.size))
  have W_ := hide (W.out.below b)
  clear W
  have W := W_
  clear W_
  have G_ := hide (G.out.below b)
  clear G
  have G := G_
  clear G_
  have H_ := hide (H.out.below b)
  clear H
  have H := H_
  clear H_
  clear b
  go_wp2_with fail
  refine (heldObserverS_any _ _ 1 _ _ (by omega) (by omega) (by omega) G.out.rd).mono ?_
  rintro e w22 ⟨rfl, b⟩
  have T22 := hide (T21.out.trans (b.mono T21.out.size))
  have W_ := hide (W.out.below b)
  clear W
  have W := W_
  clear W_
  have G_ := hide (G.out.below b)
  clear G
  have G := G_
  clear G_
  have H_ := hide (H.out.below b)
  clear H
  have H := H_
  clear H_
  clear b
  go_wp2
  go_ret
  exact ⟨rfl, T22.out⟩

set_option maxRecDepth 100000 in
theorem lifted (os : Os) (started : os.Started) (H : Type) (enc : TypeId × Value → H) :
    ReturnsInHanded {} Try.checked os 8 .any (Rows.fnExactApplyShiftsSpec.pre6 enc Try.prog Try.f8 Rows.fnExactApplyShiftsRow.domain false) (Rows.fnExactApplyShiftsSpec.post enc Try.prog Try.f8 false true false false) := by
  refine returnsInHanded_of_change (C := Try.checked) own started (by kernel_rfl) Try.func8
    (ChangeSpec.witness6 (enc := enc) (C := Try.checked) false ⟨#[], #[.slice none 0 0, .slice none 0 0], []⟩ 8 (by kernel_rfl) (by kernel_rfl) (by kernel_rfl) (by kernel_rfl)) ?_
  intro W base args ds gs before hval0 hW hcnd _
  have hval : ∀ (j : Nat) t v, Try.f8.params[j]? = some t → args[j]? = some v → Value.okWide Try.prog W .any base t v := hval0
  have hW' := hW
  obtain ⟨p, q, hA0, hV, rfl, hfz, hnd⟩ := hW
  have hA : DataW.TrodAll enc Try.prog W 0 (fun _ => true) true Try.f8.params.toList args.toList ds p := hA0
  rw [Try.params8] at hA hval
  obtain ⟨v0, vs0, d0, ds0, p0, q0, hargs, rfl, rfl, h0, r0⟩ := trodAll_cons hA
  obtain ⟨v1, vs1, d1, ds1, p1, q1, rfl, rfl, rfl, h1, r1⟩ := trodAll_cons r0
  obtain ⟨rfl, rfl, rfl⟩ := trodAll_nil r1
  obtain rfl : args = #[v0, v1] := by cases args; simp_all
  obtain ⟨rfl, rfl⟩ := trodVars_none hV
  clear hA0 hval0 hnd hfz
  have k0 := h0
  have lt0 : ∀ x ∈ p0, x.block < W.heap.size := by obtain ⟨m, hm⟩ := k0; exact DataW.trod_lt m _ _ _ hm
  have k1 := h1
  have lt1 : ∀ x ∈ p1, x.block < W.heap.size := by obtain ⟨m, hm⟩ := k1; exact DataW.trod_lt m _ _ _ hm
  obtain ⟨A0, n0, c0, rfl⟩ := okWide_slice Try.underlying22 (hval 0 22 v0 rfl rfl)
  obtain ⟨hc0, hm0, l0, rfl, hr0, hk0⟩ := open_ObsS h0
  obtain ⟨A1, n1, c1, rfl⟩ := okWide_slice Try.underlying39 (hval 1 39 v1 rfl rfl)
  obtain ⟨hc1, hm1, l1, rfl, hr1, hk1⟩ := open_intsS Try.underlying39 Try.underlying2 (by kernel_rfl) h1
  refine (walk A0 c0 l0 A1 c1 l1 W hc0 hm0 hr0 hk0 hc1 hm1 hr1 hk1).mono fun e W' ⟨he, bel⟩ => ?_
  subst he
  exact ⟨_, rfl, _, _, _, [], _, [], hW', trodAll_mk1 (shut_bool Try.underlying4 _), (trodAll_cons_mk (Below.trod laidOut (by kernel_rfl) (of_decide_eq_true (by kernel_rfl)) k0 bel lt0) (trodAll_cons_mk (Below.trod laidOut (by kernel_rfl) (of_decide_eq_true (by kernel_rfl)) k1 bel lt1) trodAll_mk0)), rfl, bel.frame _, fun h => by cases h⟩

theorem over : Rows.fnExactApplyShiftsRow.holds Try.pinned (OpenSpec.ofChange Rows.fnExactApplyShiftsSpec) :=
  OpenClaim.holds_of_wide 8 Try.f8 rfl rfl rfl rfl rfl rfl rfl ⟨rfl, rfl, rfl, rfl, rfl⟩ rfl rfl rfl rfl rfl (by kernel_rfl) Try.func8 (by kernel_rfl)
    (of_decide_eq_true (by kernel_rfl)) (by unfold Func.isWrapper; first | (rw [if_pos (by decide +kernel)]; kernel_rfl) | (rw [if_neg (by decide +kernel)]; exact ⟨rfl, rfl⟩))
    (fun os started H enc _ => lifted os started H enc)

/-- The statement. -/
theorem proved : Rows.FnExactApplyShiftsSaid := over
#print axioms proved
end Go.Proofs.Ytldgelkgobocdaa.fnExactApplyShifts
