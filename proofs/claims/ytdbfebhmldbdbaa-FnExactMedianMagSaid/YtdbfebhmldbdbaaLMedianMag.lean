/-
  PROVES: the law 'FnExactMedianMag' returns true for every input that can be read, and leaves its arguments as they were. It has no conditions.
-/
import Derived.Test.YtdbfebhmldbdbaaRows
import Derived.Test.YtdbfebhmldbdbaaPl
import Derived.Test.YtdbfebhmldbdbaaFr
import Derived.Test.YtdbfebhmldbdbaaMedC
import Derived.WalkKit
import Derived.ProofKit
import Derived.OpenShut
import Derived.ShutString
import Derived.ChangeOld
import Derived.Below
namespace Go.Proofs.Ytdbfebhmldbdbaa.fnExactMedianMag
open Go.ChangeShapes Go.WideShapes Go.ChangeAt Go.RowKit Pl
open Go.ChangeMaps (open_string shut_string)
set_option linter.unusedVariables false
set_option linter.unusedSimpArgs false

theorem own : ownKnob Try.prog.godebug = none := by kernel_rfl
theorem laidOut : laidOutB Try.prog = true := by kernel_rfl

theorem walk (A0 : Option Addr) (c0 : Nat) (l0 : List Int) (w : World) (hc0 : l0.length ≤ c0) (hm0 : c0 ≤ maxLen) (hr0 : Rd w w.heap.size 1 A0 l0.length (ints l0)) (hk0 : ∀ x ∈ l0, okI x) :
    Calls Try.prog 3 #[.slice A0 l0.length c0] w fun e w' => e = .returned (.bool true) ∧ Below w.heap.size w w' := by
  have R0 := hide hr0
  clear hr0 hk0
  have T0 := hide (Below.refl w.heap.size w)
  by_cases hq0 : 1048576 < l0.length
  · unfold maxLen at hm0
    go_enter Try.func3, Try.ntmps3
    go_wp2
    go_ret
    exact ⟨rfl, T0.out⟩
  have hn0 : l0.length ≤ 1048576 := by omega
  clear hq0
  go_enter Try.func3, Try.ntmps3
  go_wp2_with fail
  refine (toInt64S_any A0 c0 l0 _ hn0 R0.out).mono ?_
  rintro e w1 ⟨rfl, b, k⟩
  have K1 := hide k
  clear k
  have T1 := hide (T0.out.trans (b.mono T0.out.size))
  have R0_ := hide ((R0.out.below b).more b.size)
  clear R0
  have R0 := R0_
  clear R0_
  clear b T0
  go_wp2_with fail
  refine (spec_MedianMag_any _ _ l0 _ hn0 (K1.out.rdI K1.out.lt)).mono ?_
  rintro e w1b ⟨rfl, b⟩
  have T1b := hide (T1.out.trans (b.mono T1.out.size))
  have R0_ := hide ((R0.out.below b).more b.size)
  clear R0
  have R0 := R0_
  clear R0_
  have K1_ := hide (K1.out.below b K1.out.lt)
  clear K1
  have K1 := K1_
  clear K1_
  clear b T1
  go_wp2_with fail
  refine (toInt64S_any A0 c0 l0 _ hn0 R0.out).mono ?_
  rintro e w2 ⟨rfl, b, k⟩
  have K2 := hide k
  clear k
  have T2 := hide (T1b.out.trans (b.mono T1b.out.size))
  have R0_ := hide ((R0.out.below b).more b.size)
  clear R0
  have R0 := R0_
  clear R0_
  have K1_ := hide (K1.out.below b K1.out.lt)
  clear K1
  have K1 := K1_
  clear K1_
  clear b T1b
  go_wp2_with fail
  refine (impl_MedianMag_any _ _ l0 _ hn0 (K2.out.rdI K2.out.lt)).mono ?_
  rintro e w3 ⟨rfl, b⟩
  have T3 := hide (T2.out.trans (b.mono T2.out.size))
  have R0_ := hide ((R0.out.below b).more b.size)
  clear R0
  have R0 := R0_
  clear R0_
  have K1_ := hide (K1.out.below b K1.out.lt)
  clear K1
  have K1 := K1_
  clear K1_
  have K2_ := hide (K2.out.below b K2.out.lt)
  clear K2
  have K2 := K2_
  clear K2_
  clear b T2
  go_wp2_with fail
  refine (toInt64S_any A0 c0 l0 _ hn0 R0.out).mono ?_
  rintro e w4 ⟨rfl, b, k⟩
  have K3 := hide k
  clear k
  have T4 := hide (T3.out.trans (b.mono T3.out.size))
  have R0_ := hide ((R0.out.below b).more b.size)
  clear R0
  have R0 := R0_
  clear R0_
  have K1_ := hide (K1.out.below b K1.out.lt)
  clear K1
  have K1 := K1_
  clear K1_
  have K2_ := hide (K2.out.below b K2.out.lt)
  clear K2
  have K2 := K2_
  clear K2_
  clear b T3
  go_wp2_with fail
  refine (eqInt64S_same _ _ _ _ l0 _ hn0 (K2.out.rdI K2.out.lt) (K3.out.rdI K3.out.lt)).mono ?_
  rintro e w5 ⟨rfl, b⟩
  have T5 := hide (T4.out.trans (b.mono T4.out.size))
  have R0_ := hide ((R0.out.below b).more b.size)
  clear R0
  have R0 := R0_
  clear R0_
  have K1_ := hide (K1.out.below b K1.out.lt)
  clear K1
  have K1 := K1_
  clear K1_
  have K2_ := hide (K2.out.below b K2.out.lt)
  clear K2
  have K2 := K2_
  clear K2_
  have K3_ := hide (K3.out.below b K3.out.lt)
  clear K3
  have K3 := K3_
  clear K3_
  clear b T4
  go_wp2
  go_ret
  exact ⟨rfl, T5.out⟩

set_option maxRecDepth 100000 in
theorem lifted (os : Os) (started : os.Started) (H : Type) (enc : TypeId × Value → H) :
    ReturnsInHanded {} Try.checked os 3 .any (Rows.fnExactMedianMagSpec.pre6 enc Try.prog Try.f3 Rows.fnExactMedianMagRow.domain false) (Rows.fnExactMedianMagSpec.post enc Try.prog Try.f3 false true false false) := by
  refine returnsInHanded_of_change (C := Try.checked) own started (by kernel_rfl) Try.func3
    (ChangeSpec.witness6 (enc := enc) (C := Try.checked) false ⟨#[], #[.slice none 0 0], []⟩ 8 (by kernel_rfl) (by kernel_rfl) (by kernel_rfl) (by kernel_rfl)) ?_
  intro W base args ds gs before hval0 hW hcnd _
  have hval : ∀ (j : Nat) t v, Try.f3.params[j]? = some t → args[j]? = some v → Value.okWide Try.prog W .any base t v := hval0
  have hW' := hW
  obtain ⟨p, q, hA0, hV, rfl, hfz, hnd⟩ := hW
  have hA : DataW.TrodAll enc Try.prog W 0 (fun _ => true) true Try.f3.params.toList args.toList ds p := hA0
  rw [Try.params3] at hA hval
  obtain ⟨v0, vs0, d0, ds0, p0, q0, hargs, rfl, rfl, h0, r0⟩ := trodAll_cons hA
  obtain ⟨rfl, rfl, rfl⟩ := trodAll_nil r0
  obtain rfl : args = #[v0] := by cases args; simp_all
  obtain ⟨rfl, rfl⟩ := trodVars_none hV
  clear hA0 hval0 hnd hfz
  have k0 := h0
  have lt0 : ∀ x ∈ p0, x.block < W.heap.size := by obtain ⟨m, hm⟩ := k0; exact DataW.trod_lt m _ _ _ hm
  obtain ⟨A0, n0, c0, rfl⟩ := okWide_slice Try.underlying22 (hval 0 22 v0 rfl rfl)
  obtain ⟨hc0, hm0, l0, rfl, hr0, hk0⟩ := open_intsS Try.underlying22 Try.underlying2 (by kernel_rfl) h0
  refine (walk A0 c0 l0 W hc0 hm0 hr0 hk0).mono fun e W' ⟨he, bel⟩ => ?_
  subst he
  exact ⟨_, rfl, _, _, _, [], _, [], hW', trodAll_mk1 (shut_bool Try.underlying4 _), (trodAll_cons_mk (Below.trod laidOut (by kernel_rfl) (of_decide_eq_true (by kernel_rfl)) k0 bel lt0) trodAll_mk0), rfl, bel.frame _, fun h => by cases h⟩

theorem over : Rows.fnExactMedianMagRow.holds Try.pinned (OpenSpec.ofChange Rows.fnExactMedianMagSpec) :=
  OpenClaim.holds_of_wide 3 Try.f3 rfl rfl rfl rfl rfl rfl rfl ⟨rfl, rfl, rfl, rfl, rfl⟩ rfl rfl rfl rfl rfl (by kernel_rfl) Try.func3 (by kernel_rfl)
    (of_decide_eq_true (by kernel_rfl)) (by unfold Func.isWrapper; first | (rw [if_pos (by decide +kernel)]; kernel_rfl) | (rw [if_neg (by decide +kernel)]; exact ⟨rfl, rfl⟩))
    (fun os started H enc _ => lifted os started H enc)

/-- The statement. -/
theorem proved : Rows.FnExactMedianMagSaid := over
#print axioms proved
end Go.Proofs.Ytdbfebhmldbdbaa.fnExactMedianMag
