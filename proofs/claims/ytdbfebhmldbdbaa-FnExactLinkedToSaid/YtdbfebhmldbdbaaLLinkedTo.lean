/-
  PROVES: the law 'FnExactLinkedTo' returns true for every input that can be read, and leaves its arguments as they were. It has no conditions.
-/
import Derived.Test.YtdbfebhmldbdbaaRows
import Derived.Test.YtdbfebhmldbdbaaPl
import Derived.Test.YtdbfebhmldbdbaaFr
import Derived.Test.YtdbfebhmldbdbaaShi
import Derived.Test.YtdbfebhmldbdbaaMarkC
import Derived.Test.YtdbfebhmldbdbaaMarkI
import Derived.Test.YtdbfebhmldbdbaaRecC
import Derived.WalkKit
import Derived.ProofKit
import Derived.OpenShut
import Derived.ShutString
import Derived.ChangeOld
import Derived.Below
namespace Go.Proofs.Ytdbfebhmldbdbaa.fnExactLinkedTo
open Go.ChangeShapes Go.WideShapes Go.ChangeAt Go.RowKit Pl
open Go.ChangeMaps (open_string shut_string)
set_option linter.unusedVariables false
set_option linter.unusedSimpArgs false

theorem own : ownKnob Try.prog.godebug = none := by kernel_rfl
theorem laidOut : laidOutB Try.prog = true := by kernel_rfl

theorem walk (a0 : Int) (A1 : Option Addr) (c1 : Nat) (l1 : List ComT) (a2 : Int) (w : World) (w0 : okI a0) (hc1 : l1.length ≤ c1) (hm1 : c1 ≤ maxLen) (hr1 : Rd w w.heap.size 3 A1 l1.length (l1.flatMap ComT.cells)) (hk1 : ∀ x ∈ l1, ComT.ok x) (w2 : okI a2) :
    Calls Try.prog 6 #[.int .i64 a0, .slice A1 l1.length c1, .int .i64 a2] w fun e w' => e = .returned (.bool true) ∧ Below w.heap.size w w' := by
  have HR1 := hide hr1
  have O1 := hide hk1
  clear hr1 hk1
  have T0 := hide (Below.refl w.heap.size w)
  go_enter Try.func6, Try.ntmps6
  go_wp2_with fail
  refine (szCommonS_any A1 c1 l1 _ _ (by omega) (by omega) (Nat.le_trans hc1 hm1)).mono ?_
  rintro e w1 ⟨r1, rfl, hs1, b⟩
  rcases hs1 with rfl | ⟨hs1, ht1⟩
  · go_wp2
    go_ret
    exact ⟨rfl, (T0.out.trans (b.mono T0.out.size))⟩
  have hn1 : l1.length ≤ 1048576 := by omega
  have T1 := hide (T0.out.trans (b.mono T0.out.size))
  clear b
  obtain ⟨⟨res, code⟩, hF⟩ : ∃ p, p = lkOf a0 l1 a2 := ⟨_, rfl⟩
  have hres : res.length ≤ 1048576 := by have h := lkOf_le a0 l1 a2; rw [← hF] at h; exact h
  have HF := hide hF
  clear hF
  go_wp2_with fail
  refine (toCommonS_any A1 c1 l1 _ hn1 ((HR1.out.below T1.out).more T1.out.size)).mono ?_
  rintro e w2 ⟨rfl, b, k⟩
  have Y1 := hide (Bk.ownF (lo := w1.heap.size) ComT.cells_len k (Nat.le_refl _) (by unfold maxLen; omega))
  clear k
  have T2 := hide (T1.out.trans (b.mono T1.out.size))
  clear b
  have LY1 := hide T1.out.size
  go_wp2_with fail
  refine (spec_LinkedTo_val HF.out _ _ _ hn1 Y1.out.rd).mono ?_
  rintro e w3 ⟨AW, cW, rfl, v, b⟩
  have W := hide v
  have apY1W := hide (Y1.out.apart W.out (Nat.le_refl _))
  clear v
  have T3 := hide (T2.out.trans (b.mono T2.out.size))
  have Y1_ := hide (Y1.out.below b)
  clear Y1
  have Y1 := Y1_
  clear Y1_
  clear b
  have LW := hide T2.out.size
  clear Y1 LY1
  go_wp2_with fail
  refine (toCommonS_any A1 c1 l1 _ hn1 ((HR1.out.below T3.out).more T3.out.size)).mono ?_
  rintro e w4 ⟨rfl, b, k⟩
  have X1 := hide (Bk.ownF (lo := w3.heap.size) ComT.cells_len k (Nat.le_refl _) (by unfold maxLen; omega))
  have apWX1 := hide (W.out.apart X1.out (Nat.le_refl _))
  clear k
  have T4 := hide (T3.out.trans (b.mono T3.out.size))
  have W_ := hide (W.out.below b)
  clear W
  have W := W_
  clear W_
  clear b
  have LX1 := hide T3.out.size
  go_wp2_with fail
  refine (impl_LinkedTo_val HF.out _ _ _ hn1 X1.out.rd).mono ?_
  rintro e w5 ⟨AG, cG, rfl, v, b⟩
  have G := hide v
  have apWG := hide (W.out.apart G.out (Nat.le_refl _))
  have apX1G := hide (X1.out.apart G.out (Nat.le_refl _))
  clear v
  have T5 := hide (T4.out.trans (b.mono T4.out.size))
  have W_ := hide (W.out.below b)
  clear W
  have W := W_
  clear W_
  have X1_ := hide (X1.out.below b)
  clear X1
  have X1 := X1_
  clear X1_
  clear b
  have LG := hide T4.out.size
  go_wp2_with fail
  refine (eqInt64S_same _ _ _ _ res _ hres G.out.rd W.out.rd).mono ?_
  rintro e w6 ⟨rfl, b⟩
  have T6 := hide (T5.out.trans (b.mono T5.out.size))
  have W_ := hide (W.out.below b)
  clear W
  have W := W_
  clear W_
  have X1_ := hide (X1.out.below b)
  clear X1
  have X1 := X1_
  clear X1_
  have G_ := hide (G.out.below b)
  clear G
  have G := G_
  clear G_
  clear b
  go_wp2_with fail
  refine (toCommonS_any A1 c1 l1 _ hn1 ((HR1.out.below T6.out).more T6.out.size)).mono ?_
  rintro e w7 ⟨rfl, b, k⟩
  have Z1 := hide (Bk.ownF (lo := w6.heap.size) ComT.cells_len k (Nat.le_refl _) (by unfold maxLen; omega))
  have apWZ1 := hide (W.out.apart Z1.out (Nat.le_refl _))
  have apX1Z1 := hide (X1.out.apart Z1.out (Nat.le_refl _))
  have apGZ1 := hide (G.out.apart Z1.out (Nat.le_refl _))
  clear k
  have T7 := hide (T6.out.trans (b.mono T6.out.size))
  have W_ := hide (W.out.below b)
  clear W
  have W := W_
  clear W_
  have X1_ := hide (X1.out.below b)
  clear X1
  have X1 := X1_
  clear X1_
  have G_ := hide (G.out.below b)
  clear G
  have G := G_
  clear G_
  clear b
  have LZ1 := hide T6.out.size
  go_wp2_with fail
  refine (eqCommonS_same _ _ _ _ l1 _ hn1 X1.out.rd Z1.out.rd).mono ?_
  rintro e w8 ⟨rfl, b⟩
  have T8 := hide (T7.out.trans (b.mono T7.out.size))
  have W_ := hide (W.out.below b)
  clear W
  have W := W_
  clear W_
  have X1_ := hide (X1.out.below b)
  clear X1
  have X1 := X1_
  clear X1_
  have G_ := hide (G.out.below b)
  clear G
  have G := G_
  clear G_
  have Z1_ := hide (Z1.out.below b)
  clear Z1
  have Z1 := Z1_
  clear Z1_
  clear b
  clear Z1 LZ1
  go_wp2_with fail
  refine (markCommonS_any _ _ _ 1 _ _ _ (by omega) (by omega) (by omega) X1.out).mono ?_
  rintro e w9 ⟨rfl, v, g⟩
  have T9 := hide (Below.only T8.out T8.out.size X1.out g LX1.out)
  have W_ := hide (W.out.far g apWX1.out)
  clear W
  have W := W_
  clear W_
  have G_ := hide (G.out.far g apX1G.out.symm)
  clear G
  have G := G_
  clear G_
  clear X1
  have X1 := hide v
  clear v g
  clear X1 LX1
  go_wp2_with fail
  refine (eqInt64S_same _ _ _ _ res _ hres G.out.rd W.out.rd).mono ?_
  rintro e w10 ⟨rfl, b⟩
  have T10 := hide (T9.out.trans (b.mono T9.out.size))
  have W_ := hide (W.out.below b)
  clear W
  have W := W_
  clear W_
  have G_ := hide (G.out.below b)
  clear G
  have G := G_
  clear G_
  clear b
  go_wp2_with fail
  refine (markInt64S_any _ _ _ 1 _ _ _ hres (by omega) G.out).mono ?_
  rintro e w11 ⟨rfl, v, g⟩
  have T11 := hide (Below.only T10.out T10.out.size G.out g LG.out)
  have W_ := hide (W.out.far g apWG.out)
  clear W
  have W := W_
  clear W_
  clear G
  have G := hide v
  clear v g
  go_wp2_with fail
  refine (heldInt64S_any _ _ 1 _ _ hres (by omega) G.out.rd).mono ?_
  rintro e w' ⟨rfl, rfl⟩
  go_wp2_with fail
  refine (toCommonS_any A1 c1 l1 _ hn1 ((HR1.out.below T11.out).more T11.out.size)).mono ?_
  rintro e w12 ⟨rfl, b, k⟩
  have U1 := hide (Bk.ownF (lo := w11.heap.size) ComT.cells_len k (Nat.le_refl _) (by unfold maxLen; omega))
  have apWU1 := hide (W.out.apart U1.out (Nat.le_refl _))
  have apGU1 := hide (G.out.apart U1.out (Nat.le_refl _))
  clear k
  have T12 := hide (T11.out.trans (b.mono T11.out.size))
  have W_ := hide (W.out.below b)
  clear W
  have W := W_
  clear W_
  have G_ := hide (G.out.below b)
  clear G
  have G := G_
  clear G_
  clear b
  have LU1 := hide T11.out.size
  go_wp2_with fail
  refine (impl_LinkedTo_val HF.out _ _ _ hn1 U1.out.rd).mono ?_
  rintro e w13 ⟨AH, cH, rfl, v, b⟩
  have H := hide v
  have apWH := hide (W.out.apart H.out (Nat.le_refl _))
  have apGH := hide (G.out.apart H.out (Nat.le_refl _))
  have apU1H := hide (U1.out.apart H.out (Nat.le_refl _))
  clear v
  have T13 := hide (T12.out.trans (b.mono T12.out.size))
  have W_ := hide (W.out.below b)
  clear W
  have W := W_
  clear W_
  have G_ := hide (G.out.below b)
  clear G
  have G := G_
  clear G_
  have U1_ := hide (U1.out.below b)
  clear U1
  have U1 := U1_
  clear U1_
  clear b
  have LH := hide T12.out.size
  clear U1 LU1
  go_wp2_with fail
  refine (eqInt64S_same _ _ _ _ res _ hres H.out.rd W.out.rd).mono ?_
  rintro e w14 ⟨rfl, b⟩
  have T14 := hide (T13.out.trans (b.mono T13.out.size))
  have W_ := hide (W.out.below b)
  clear W
  have W := W_
  clear W_
  have G_ := hide (G.out.below b)
  clear G
  have G := G_
  clear G_
  have H_ := hide (H.out.below b)
  clear H
  have H := H_
  clear H_
  clear b
  go_wp2_with fail
  refine (heldInt64S_any _ _ 1 _ _ hres (by omega) G.out.rd).mono ?_
  rintro e w' ⟨rfl, rfl⟩
  go_wp2
  go_ret
  exact ⟨rfl, T14.out⟩

set_option maxRecDepth 100000 in
theorem lifted (os : Os) (started : os.Started) (H : Type) (enc : TypeId × Value → H) :
    ReturnsInHanded {} Try.checked os 6 .any (Rows.fnExactLinkedToSpec.pre6 enc Try.prog Try.f6 Rows.fnExactLinkedToRow.domain false) (Rows.fnExactLinkedToSpec.post enc Try.prog Try.f6 false true false false) := by
  refine returnsInHanded_of_change (C := Try.checked) own started (by kernel_rfl) Try.func6
    (ChangeSpec.witness6 (enc := enc) (C := Try.checked) false ⟨#[], #[.int .i64 0, .slice none 0 0, .int .i64 0], []⟩ 8 (by kernel_rfl) (by kernel_rfl) (by kernel_rfl) (by kernel_rfl)) ?_
  intro W base args ds gs before hval0 hW hcnd _
  have hval : ∀ (j : Nat) t v, Try.f6.params[j]? = some t → args[j]? = some v → Value.okWide Try.prog W .any base t v := hval0
  have hW' := hW
  obtain ⟨p, q, hA0, hV, rfl, hfz, hnd⟩ := hW
  have hA : DataW.TrodAll enc Try.prog W 0 (fun _ => true) true Try.f6.params.toList args.toList ds p := hA0
  rw [Try.params6] at hA hval
  obtain ⟨v0, vs0, d0, ds0, p0, q0, hargs, rfl, rfl, h0, r0⟩ := trodAll_cons hA
  obtain ⟨v1, vs1, d1, ds1, p1, q1, rfl, rfl, rfl, h1, r1⟩ := trodAll_cons r0
  obtain ⟨v2, vs2, d2, ds2, p2, q2, rfl, rfl, rfl, h2, r2⟩ := trodAll_cons r1
  obtain ⟨rfl, rfl, rfl⟩ := trodAll_nil r2
  obtain rfl : args = #[v0, v1, v2] := by cases args; simp_all
  obtain ⟨rfl, rfl⟩ := trodVars_none hV
  clear hA0 hval0 hnd hfz
  have k0 := h0
  have lt0 : ∀ x ∈ p0, x.block < W.heap.size := by obtain ⟨m, hm⟩ := k0; exact DataW.trod_lt m _ _ _ hm
  have k1 := h1
  have lt1 : ∀ x ∈ p1, x.block < W.heap.size := by obtain ⟨m, hm⟩ := k1; exact DataW.trod_lt m _ _ _ hm
  have k2 := h2
  have lt2 : ∀ x ∈ p2, x.block < W.heap.size := by obtain ⟨m, hm⟩ := k2; exact DataW.trod_lt m _ _ _ hm
  obtain ⟨a0, rfl, rfl, rfl, w0⟩ := open_int Try.underlying2 (hval 0 2 v0 rfl rfl) h0
  obtain ⟨A1, n1, c1, rfl⟩ := okWide_slice Try.underlying28 (hval 1 28 v1 rfl rfl)
  obtain ⟨hc1, hm1, l1, rfl, hr1, hk1⟩ := open_ComS h1
  obtain ⟨a2, rfl, rfl, rfl, w2⟩ := open_int Try.underlying2 (hval 2 2 v2 rfl rfl) h2
  refine (walk a0 A1 c1 l1 a2 W w0 hc1 hm1 hr1 hk1 w2).mono fun e W' ⟨he, bel⟩ => ?_
  subst he
  exact ⟨_, rfl, _, _, _, [], _, [], hW', trodAll_mk1 (shut_bool Try.underlying4 _), (trodAll_cons_mk (Below.trod laidOut (by kernel_rfl) (of_decide_eq_true (by kernel_rfl)) k0 bel lt0) (trodAll_cons_mk (Below.trod laidOut (by kernel_rfl) (of_decide_eq_true (by kernel_rfl)) k1 bel lt1) (trodAll_cons_mk (Below.trod laidOut (by kernel_rfl) (of_decide_eq_true (by kernel_rfl)) k2 bel lt2) trodAll_mk0))), rfl, bel.frame _, fun h => by cases h⟩

theorem over : Rows.fnExactLinkedToRow.holds Try.pinned (OpenSpec.ofChange Rows.fnExactLinkedToSpec) :=
  OpenClaim.holds_of_wide 6 Try.f6 rfl rfl rfl rfl rfl rfl rfl ⟨rfl, rfl, rfl, rfl, rfl⟩ rfl rfl rfl rfl rfl (by kernel_rfl) Try.func6 (by kernel_rfl)
    (of_decide_eq_true (by kernel_rfl)) (by unfold Func.isWrapper; first | (rw [if_pos (by decide +kernel)]; kernel_rfl) | (rw [if_neg (by decide +kernel)]; exact ⟨rfl, rfl⟩))
    (fun os started H enc _ => lifted os started H enc)

/-- The statement. -/
theorem proved : Rows.FnExactLinkedToSaid := over
#print axioms proved
end Go.Proofs.Ytdbfebhmldbdbaa.fnExactLinkedTo
