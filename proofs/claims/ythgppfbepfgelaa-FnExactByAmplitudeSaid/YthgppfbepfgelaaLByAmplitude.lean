/-
  PROVES: the law 'FnExactByAmplitude' returns true for every input that can be read, and leaves its arguments as they were. It has no conditions.
-/
import Derived.Test.YthgppfbepfgelaaRows
import Derived.Test.YthgppfbepfgelaaPl
import Derived.Test.YthgppfbepfgelaaFr
import Derived.Test.YthgppfbepfgelaaAmpS
import Derived.Test.YthgppfbepfgelaaMarkS
import Derived.Test.YthgppfbepfgelaaMarkI
import Derived.Test.YthgppfbepfgelaaRecS
import Derived.WalkKit
import Derived.ProofKit
import Derived.OpenShut
import Derived.ShutString
import Derived.ChangeOld
import Derived.Below
namespace Go.Proofs.Ythgppfbepfgelaa.fnExactByAmplitude
open Go.ChangeShapes Go.WideShapes Go.ChangeAt Go.RowKit Pl
open Go.ChangeMaps (open_string shut_string)
set_option linter.unusedVariables false
set_option linter.unusedSimpArgs false

theorem own : ownKnob Try.prog.godebug = none := by kernel_rfl
theorem laidOut : laidOutB Try.prog = true := by kernel_rfl

theorem walk (A0 : Option Addr) (c0 : Nat) (l0 : List StarT) (w : World) (hc0 : l0.length ≤ c0) (hm0 : c0 ≤ maxLen) (hr0 : Rd w w.heap.size 5 A0 l0.length (l0.flatMap StarT.cells)) (hk0 : ∀ x ∈ l0, StarT.ok x) :
    Calls Try.prog 3 #[.slice A0 l0.length c0] w fun e w' => e = .returned (.bool true) ∧ Below w.heap.size w w' := by
  have HR0 := hide hr0
  have O0 := hide hk0
  clear hr0 hk0
  have T0 := hide (Below.refl w.heap.size w)
  go_enter Try.func3, Try.ntmps3
  go_wp2_with fail
  refine (szStarS_any A0 c0 l0 _ _ (by omega) (by omega) (Nat.le_trans hc0 hm0) ((HR0.out.below T0.out).more T0.out.size) O0.out).mono ?_
  rintro e w1 ⟨r0, rfl, hs0, b⟩
  rcases hs0 with rfl | ⟨hs0, ht0⟩
  · go_wp2
    go_ret
    exact ⟨rfl, (T0.out.trans (b.mono T0.out.size))⟩
  have hn0 : l0.length ≤ 1048576 := by omega
  have T1 := hide (T0.out.trans (b.mono T0.out.size))
  clear b
  obtain ⟨⟨res, code⟩, hF⟩ : ∃ p, p = ampOf l0 := ⟨_, rfl⟩
  have hres : res.length ≤ 1048576 := by have h := Nat.le_trans (ampOf_le l0) hn0; rw [← hF] at h; exact h
  have HF := hide hF
  clear hF
  go_wp2_with fail
  refine (toStarS_any A0 c0 l0 _ hn0 ((HR0.out.below T1.out).more T1.out.size)).mono ?_
  rintro e w2 ⟨rfl, b, k⟩
  have Y0 := hide (Bk.ownF (lo := w1.heap.size) StarT.cells_len k (Nat.le_refl _) (by unfold maxLen; omega))
  clear k
  have T2 := hide (T1.out.trans (b.mono T1.out.size))
  clear b
  have LY0 := hide T1.out.size
  go_wp2_with fail
  refine (spec_ByAmplitude_val HF.out _ _ _ hn0 O0.out Y0.out.rd).mono ?_
  rintro e w3 ⟨AW, cW, rfl, v, b⟩
  have W := hide v
  have apY0W := hide (Y0.out.apart W.out (Nat.le_refl _))
  clear v
  have T3 := hide (T2.out.trans (b.mono T2.out.size))
  have Y0_ := hide (Y0.out.below b)
  clear Y0
  have Y0 := Y0_
  clear Y0_
  clear b
  have LW := hide T2.out.size
  clear Y0 LY0
  go_wp2_with fail
  refine (toStarS_any A0 c0 l0 _ hn0 ((HR0.out.below T3.out).more T3.out.size)).mono ?_
  rintro e w4 ⟨rfl, b, k⟩
  have X0 := hide (Bk.ownF (lo := w3.heap.size) StarT.cells_len k (Nat.le_refl _) (by unfold maxLen; omega))
  have apWX0 := hide (W.out.apart X0.out (Nat.le_refl _))
  clear k
  have T4 := hide (T3.out.trans (b.mono T3.out.size))
  have W_ := hide (W.out.below b)
  clear W
  have W := W_
  clear W_
  clear b
  have LX0 := hide T3.out.size
  go_wp2_with fail
  refine (impl_ByAmplitude_val HF.out _ _ _ hn0 O0.out X0.out.rd).mono ?_
  rintro e w5 ⟨AG, cG, rfl, v, b⟩
  have G := hide v
  have apWG := hide (W.out.apart G.out (Nat.le_refl _))
  have apX0G := hide (X0.out.apart G.out (Nat.le_refl _))
  clear v
  have T5 := hide (T4.out.trans (b.mono T4.out.size))
  have W_ := hide (W.out.below b)
  clear W
  have W := W_
  clear W_
  have X0_ := hide (X0.out.below b)
  clear X0
  have X0 := X0_
  clear X0_
  clear b
  have LG := hide T4.out.size
  go_wp2_with fail
  refine (eqInt64S_same _ _ _ _ res _ hres G.out.rd W.out.rd).mono ?_
  rintro e w6 ⟨rfl, b⟩
  have T6 := hide (T5.out.trans (b.mono T5.out.size))
  have W_ := hide (W.out.below b)
  clear W
  have W := W_
  clear W_
  have X0_ := hide (X0.out.below b)
  clear X0
  have X0 := X0_
  clear X0_
  have G_ := hide (G.out.below b)
  clear G
  have G := G_
  clear G_
  clear b
  go_wp2_with fail
  refine (toStarS_any A0 c0 l0 _ hn0 ((HR0.out.below T6.out).more T6.out.size)).mono ?_
  rintro e w7 ⟨rfl, b, k⟩
  have Z0 := hide (Bk.ownF (lo := w6.heap.size) StarT.cells_len k (Nat.le_refl _) (by unfold maxLen; omega))
  have apWZ0 := hide (W.out.apart Z0.out (Nat.le_refl _))
  have apX0Z0 := hide (X0.out.apart Z0.out (Nat.le_refl _))
  have apGZ0 := hide (G.out.apart Z0.out (Nat.le_refl _))
  clear k
  have T7 := hide (T6.out.trans (b.mono T6.out.size))
  have W_ := hide (W.out.below b)
  clear W
  have W := W_
  clear W_
  have X0_ := hide (X0.out.below b)
  clear X0
  have X0 := X0_
  clear X0_
  have G_ := hide (G.out.below b)
  clear G
  have G := G_
  clear G_
  clear b
  have LZ0 := hide T6.out.size
  go_wp2_with fail
  refine (eqStarS_same _ _ _ _ l0 _ hn0 X0.out.rd Z0.out.rd).mono ?_
  rintro e w8 ⟨rfl, b⟩
  have T8 := hide (T7.out.trans (b.mono T7.out.size))
  have W_ := hide (W.out.below b)
  clear W
  have W := W_
  clear W_
  have X0_ := hide (X0.out.below b)
  clear X0
  have X0 := X0_
  clear X0_
  have G_ := hide (G.out.below b)
  clear G
  have G := G_
  clear G_
  have Z0_ := hide (Z0.out.below b)
  clear Z0
  have Z0 := Z0_
  clear Z0_
  clear b
  clear Z0 LZ0
  go_wp2_with fail
  refine (markStarS_any _ _ _ 1 _ _ _ (by omega) (by omega) (by omega) X0.out).mono ?_
  rintro e w9 ⟨rfl, v, g⟩
  have T9 := hide (Below.only T8.out T8.out.size X0.out g LX0.out)
  have W_ := hide (W.out.far g apWX0.out)
  clear W
  have W := W_
  clear W_
  have G_ := hide (G.out.far g apX0G.out.symm)
  clear G
  have G := G_
  clear G_
  clear X0
  have X0 := hide v
  clear v g
  clear X0 LX0
  go_wp2_with fail
  refine (eqInt64S_same _ _ _ _ res _ hres G.out.rd W.out.rd).mono ?_
  rintro e w10 ⟨rfl, b⟩
  have T10 := hide (T9.out.trans (b.mono T9.out.size))
  have W_ := hide (W.out.below b)
  clear W
  have W := W_
  clear W_
  have G_ := hide (G.out.below b)
  clear G
  have G := G_
  clear G_
  clear b
  go_wp2_with fail
  refine (markInt64S_any _ _ _ 1 _ _ _ hres (by omega) G.out).mono ?_
  rintro e w11 ⟨rfl, v, g⟩
  have T11 := hide (Below.only T10.out T10.out.size G.out g LG.out)
  have W_ := hide (W.out.far g apWG.out)
  clear W
  have W := W_
  clear W_
  clear G
  have G := hide v
  clear v g
  go_wp2_with fail
  refine (heldInt64S_any _ _ 1 _ _ hres (by omega) G.out.rd).mono ?_
  rintro e w' ⟨rfl, rfl⟩
  go_wp2_with fail
  refine (toStarS_any A0 c0 l0 _ hn0 ((HR0.out.below T11.out).more T11.out.size)).mono ?_
  rintro e w12 ⟨rfl, b, k⟩
  have U0 := hide (Bk.ownF (lo := w11.heap.size) StarT.cells_len k (Nat.le_refl _) (by unfold maxLen; omega))
  have apWU0 := hide (W.out.apart U0.out (Nat.le_refl _))
  have apGU0 := hide (G.out.apart U0.out (Nat.le_refl _))
  clear k
  have T12 := hide (T11.out.trans (b.mono T11.out.size))
  have W_ := hide (W.out.below b)
  clear W
  have W := W_
  clear W_
  have G_ := hide (G.out.below b)
  clear G
  have G := G_
  clear G_
  clear b
  have LU0 := hide T11.out.size
  go_wp2_with fail
  refine (impl_ByAmplitude_val HF.out _ _ _ hn0 O0.out U0.out.rd).mono ?_
  rintro e w13 ⟨AH, cH, rfl, v, b⟩
  have H := hide v
  have apWH := hide (W.out.apart H.out (Nat.le_refl _))
  have apGH := hide (G.out.apart H.out (Nat.le_refl _))
  have apU0H := hide (U0.out.apart H.out (Nat.le_refl _))
  clear v
  have T13 := hide (T12.out.trans (b.mono T12.out.size))
  have W_ := hide (W.out.below b)
  clear W
  have W := W_
  clear W_
  have G_ := hide (G.out.below b)
  clear G
  have G := G_
  clear G_
  have U0_ := hide (U0.out.below b)
  clear U0
  have U0 := U0_
  clear U0_
  clear b
  have LH := hide T12.out.size
  clear U0 LU0
  go_wp2_with fail
  refine (eqInt64S_same _ _ _ _ res _ hres H.out.rd W.out.rd).mono ?_
  rintro e w14 ⟨rfl, b⟩
  have T14 := hide (T13.out.trans (b.mono T13.out.size))
  have W_ := hide (W.out.below b)
  clear W
  have W := W_
  clear W_
  have G_ := hide (G.out.below b)
  clear G
  have G := G_
  clear G_
  have H_ := hide (H.out.below b)
  clear H
  have H := H_
  clear H_
  clear b
  go_wp2_with fail
  refine (heldInt64S_any _ _ 1 _ _ hres (by omega) G.out.rd).mono ?_
  rintro e w' ⟨rfl, rfl⟩
  go_wp2
  go_ret
  exact ⟨rfl, T14.out⟩

set_option maxRecDepth 100000 in
theorem lifted (os : Os) (started : os.Started) (H : Type) (enc : TypeId × Value → H) :
    ReturnsInHanded {} Try.checked os 3 .any (Rows.fnExactByAmplitudeSpec.pre6 enc Try.prog Try.f3 Rows.fnExactByAmplitudeRow.domain false) (Rows.fnExactByAmplitudeSpec.post enc Try.prog Try.f3 false true false false) := by
  refine returnsInHanded_of_change (C := Try.checked) own started (by kernel_rfl) Try.func3
    (ChangeSpec.witness6 (enc := enc) (C := Try.checked) false ⟨#[], #[.slice none 0 0], []⟩ 8 (by kernel_rfl) (by kernel_rfl) (by kernel_rfl) (by kernel_rfl)) ?_
  intro W base args ds gs before hval0 hW hcnd _
  have hval : ∀ (j : Nat) t v, Try.f3.params[j]? = some t → args[j]? = some v → Value.okWide Try.prog W .any base t v := hval0
  have hW' := hW
  obtain ⟨p, q, hA0, hV, rfl, hfz, hnd⟩ := hW
  have hA : DataW.TrodAll enc Try.prog W 0 (fun _ => true) true Try.f3.params.toList args.toList ds p := hA0
  rw [Try.params3] at hA hval
  obtain ⟨v0, vs0, d0, ds0, p0, q0, hargs, rfl, rfl, h0, r0⟩ := trodAll_cons hA
  obtain ⟨rfl, rfl, rfl⟩ := trodAll_nil r0
  obtain rfl : args = #[v0] := by cases args; simp_all
  obtain ⟨rfl, rfl⟩ := trodVars_none hV
  clear hA0 hval0 hnd hfz
  have k0 := h0
  have lt0 : ∀ x ∈ p0, x.block < W.heap.size := by obtain ⟨m, hm⟩ := k0; exact DataW.trod_lt m _ _ _ hm
  obtain ⟨A0, n0, c0, rfl⟩ := okWide_slice Try.underlying22 (hval 0 22 v0 rfl rfl)
  obtain ⟨hc0, hm0, l0, rfl, hr0, hk0⟩ := open_StarS h0
  refine (walk A0 c0 l0 W hc0 hm0 hr0 hk0).mono fun e W' ⟨he, bel⟩ => ?_
  subst he
  exact ⟨_, rfl, _, _, _, [], _, [], hW', trodAll_mk1 (shut_bool Try.underlying4 _), (trodAll_cons_mk (Below.trod laidOut (by kernel_rfl) (of_decide_eq_true (by kernel_rfl)) k0 bel lt0) trodAll_mk0), rfl, bel.frame _, fun h => by cases h⟩

theorem over : Rows.fnExactByAmplitudeRow.holds Try.pinned (OpenSpec.ofChange Rows.fnExactByAmplitudeSpec) :=
  OpenClaim.holds_of_wide 3 Try.f3 rfl rfl rfl rfl rfl rfl rfl ⟨rfl, rfl, rfl, rfl, rfl⟩ rfl rfl rfl rfl rfl (by kernel_rfl) Try.func3 (by kernel_rfl)
    (of_decide_eq_true (by kernel_rfl)) (by unfold Func.isWrapper; first | (rw [if_pos (by decide +kernel)]; kernel_rfl) | (rw [if_neg (by decide +kernel)]; exact ⟨rfl, rfl⟩))
    (fun os started H enc _ => lifted os started H enc)

/-- The statement. -/
theorem proved : Rows.FnExactByAmplitudeSaid := over
#print axioms proved
end Go.Proofs.Ythgppfbepfgelaa.fnExactByAmplitude
