/-
  PROVES: the law 'FnExactMedianDiff' returns true for every input that can be read, and leaves its arguments as they were. It has no conditions.
-/
import Derived.Test.YtdbfebhmldbdbaaRows
import Derived.Test.YtdbfebhmldbdbaaPl
import Derived.Test.YtdbfebhmldbdbaaFr
import Derived.Test.YtdbfebhmldbdbaaMedE
import Derived.Test.YtdbfebhmldbdbaaRecC
import Derived.WalkKit
import Derived.ProofKit
import Derived.OpenShut
import Derived.ShutString
import Derived.ChangeOld
import Derived.Below
namespace Go.Proofs.Ytdbfebhmldbdbaa.fnExactMedianDiff
open Go.ChangeShapes Go.WideShapes Go.ChangeAt Go.RowKit Pl
open Go.ChangeMaps (open_string shut_string)
set_option linter.unusedVariables false
set_option linter.unusedSimpArgs false

theorem own : ownKnob Try.prog.godebug = none := by kernel_rfl
theorem laidOut : laidOutB Try.prog = true := by kernel_rfl

theorem walk (a0 : Int) (A1 : Option Addr) (c1 : Nat) (l1 : List ComT) (a2 : Int) (a3 : Int) (w : World) (w0 : okI a0) (hc1 : l1.length ≤ c1) (hm1 : c1 ≤ maxLen) (hr1 : Rd w w.heap.size 3 A1 l1.length (l1.flatMap ComT.cells)) (hk1 : ∀ x ∈ l1, ComT.ok x) (w2 : okI a2) (w3 : okI a3) :
    Calls Try.prog 4 #[.int .i64 a0, .slice A1 l1.length c1, .int .i64 a2, .int .i64 a3] w fun e w' => e = .returned (.bool true) ∧ Below w.heap.size w w' := by
  have R1 := hide hr1
  have O1 := hide hk1
  clear hr1 hk1
  have T0 := hide (Below.refl w.heap.size w)
  go_enter Try.func4, Try.ntmps4
  go_wp2_with fail
  refine (szCommonS_any A1 c1 l1 _ _ (by omega) (by omega) (Nat.le_trans hc1 hm1)).mono ?_
  rintro e w1 ⟨r1, rfl, hs1, b⟩
  rcases hs1 with rfl | ⟨hs1, ht1⟩
  · go_wp2
    go_ret
    exact ⟨rfl, T0.out.trans (b.mono T0.out.size)⟩
  have hn1 : l1.length ≤ 1048576 := by omega
  have T1 := hide (T0.out.trans (b.mono T0.out.size))
  have R1_ := hide ((R1.out.below b).more b.size)
  clear R1
  have R1 := R1_
  clear R1_
  clear b T0
  go_wp2_with fail
  refine (toCommonS_any A1 c1 l1 _ hn1 R1.out).mono ?_
  rintro e w2 ⟨rfl, b, k⟩
  have K1 := hide k
  clear k
  have T2 := hide (T1.out.trans (b.mono T1.out.size))
  have R1_ := hide ((R1.out.below b).more b.size)
  clear R1
  have R1 := R1_
  clear R1_
  clear b T1
  go_wp2_with fail
  refine (spec_MedianDiff_any _ _ _ l1 _ _ _ hn1 (K1.out.readF ComT.cells_len K1.out.lt)).mono ?_
  rintro e w3 ⟨rfl, b⟩
  have T3 := hide (T2.out.trans (b.mono T2.out.size))
  have R1_ := hide ((R1.out.below b).more b.size)
  clear R1
  have R1 := R1_
  clear R1_
  have K1_ := hide (K1.out.below b K1.out.lt)
  clear K1
  have K1 := K1_
  clear K1_
  clear b T2
  go_wp2_with fail
  refine (toCommonS_any A1 c1 l1 _ hn1 R1.out).mono ?_
  rintro e w4 ⟨rfl, b, k⟩
  have K2 := hide k
  clear k
  have T4 := hide (T3.out.trans (b.mono T3.out.size))
  have R1_ := hide ((R1.out.below b).more b.size)
  clear R1
  have R1 := R1_
  clear R1_
  have K1_ := hide (K1.out.below b K1.out.lt)
  clear K1
  have K1 := K1_
  clear K1_
  clear b T3
  go_wp2_with fail
  refine (impl_MedianDiff_any _ _ _ l1 _ _ _ hn1 (K2.out.readF ComT.cells_len K2.out.lt)).mono ?_
  rintro e w5 ⟨rfl, b⟩
  have T5 := hide (T4.out.trans (b.mono T4.out.size))
  have R1_ := hide ((R1.out.below b).more b.size)
  clear R1
  have R1 := R1_
  clear R1_
  have K1_ := hide (K1.out.below b K1.out.lt)
  clear K1
  have K1 := K1_
  clear K1_
  have K2_ := hide (K2.out.below b K2.out.lt)
  clear K2
  have K2 := K2_
  clear K2_
  clear b T4
  go_wp2_with fail
  refine (toCommonS_any A1 c1 l1 _ hn1 R1.out).mono ?_
  rintro e w6 ⟨rfl, b, k⟩
  have K3 := hide k
  clear k
  have T6 := hide (T5.out.trans (b.mono T5.out.size))
  have R1_ := hide ((R1.out.below b).more b.size)
  clear R1
  have R1 := R1_
  clear R1_
  have K1_ := hide (K1.out.below b K1.out.lt)
  clear K1
  have K1 := K1_
  clear K1_
  have K2_ := hide (K2.out.below b K2.out.lt)
  clear K2
  have K2 := K2_
  clear K2_
  clear b T5
  go_wp2_with fail
  refine (eqCommonS_same _ _ _ _ l1 _ hn1 (K2.out.readF ComT.cells_len K2.out.lt) (K3.out.readF ComT.cells_len K3.out.lt)).mono ?_
  rintro e w7 ⟨rfl, b⟩
  have T7 := hide (T6.out.trans (b.mono T6.out.size))
  have R1_ := hide ((R1.out.below b).more b.size)
  clear R1
  have R1 := R1_
  clear R1_
  have K1_ := hide (K1.out.below b K1.out.lt)
  clear K1
  have K1 := K1_
  clear K1_
  have K2_ := hide (K2.out.below b K2.out.lt)
  clear K2
  have K2 := K2_
  clear K2_
  have K3_ := hide (K3.out.below b K3.out.lt)
  clear K3
  have K3 := K3_
  clear K3_
  clear b T6
  go_wp2
  go_ret
  exact ⟨rfl, T7.out⟩

set_option maxRecDepth 100000 in
theorem lifted (os : Os) (started : os.Started) (H : Type) (enc : TypeId × Value → H) :
    ReturnsInHanded {} Try.checked os 4 .any (Rows.fnExactMedianDiffSpec.pre6 enc Try.prog Try.f4 Rows.fnExactMedianDiffRow.domain false) (Rows.fnExactMedianDiffSpec.post enc Try.prog Try.f4 false true false false) := by
  refine returnsInHanded_of_change (C := Try.checked) own started (by kernel_rfl) Try.func4
    (ChangeSpec.witness6 (enc := enc) (C := Try.checked) false ⟨#[], #[.int .i64 0, .slice none 0 0, .int .i64 0, .int .i64 0], []⟩ 8 (by kernel_rfl) (by kernel_rfl) (by kernel_rfl) (by kernel_rfl)) ?_
  intro W base args ds gs before hval0 hW hcnd _
  have hval : ∀ (j : Nat) t v, Try.f4.params[j]? = some t → args[j]? = some v → Value.okWide Try.prog W .any base t v := hval0
  have hW' := hW
  obtain ⟨p, q, hA0, hV, rfl, hfz, hnd⟩ := hW
  have hA : DataW.TrodAll enc Try.prog W 0 (fun _ => true) true Try.f4.params.toList args.toList ds p := hA0
  rw [Try.params4] at hA hval
  obtain ⟨v0, vs0, d0, ds0, p0, q0, hargs, rfl, rfl, h0, r0⟩ := trodAll_cons hA
  obtain ⟨v1, vs1, d1, ds1, p1, q1, rfl, rfl, rfl, h1, r1⟩ := trodAll_cons r0
  obtain ⟨v2, vs2, d2, ds2, p2, q2, rfl, rfl, rfl, h2, r2⟩ := trodAll_cons r1
  obtain ⟨v3, vs3, d3, ds3, p3, q3, rfl, rfl, rfl, h3, r3⟩ := trodAll_cons r2
  obtain ⟨rfl, rfl, rfl⟩ := trodAll_nil r3
  obtain rfl : args = #[v0, v1, v2, v3] := by cases args; simp_all
  obtain ⟨rfl, rfl⟩ := trodVars_none hV
  clear hA0 hval0 hnd hfz
  have k0 := h0
  have lt0 : ∀ x ∈ p0, x.block < W.heap.size := by obtain ⟨m, hm⟩ := k0; exact DataW.trod_lt m _ _ _ hm
  have k1 := h1
  have lt1 : ∀ x ∈ p1, x.block < W.heap.size := by obtain ⟨m, hm⟩ := k1; exact DataW.trod_lt m _ _ _ hm
  have k2 := h2
  have lt2 : ∀ x ∈ p2, x.block < W.heap.size := by obtain ⟨m, hm⟩ := k2; exact DataW.trod_lt m _ _ _ hm
  have k3 := h3
  have lt3 : ∀ x ∈ p3, x.block < W.heap.size := by obtain ⟨m, hm⟩ := k3; exact DataW.trod_lt m _ _ _ hm
  obtain ⟨a0, rfl, rfl, rfl, w0⟩ := open_int Try.underlying2 (hval 0 2 v0 rfl rfl) h0
  obtain ⟨A1, n1, c1, rfl⟩ := okWide_slice Try.underlying28 (hval 1 28 v1 rfl rfl)
  obtain ⟨hc1, hm1, l1, rfl, hr1, hk1⟩ := open_ComS h1
  obtain ⟨a2, rfl, rfl, rfl, w2⟩ := open_int Try.underlying2 (hval 2 2 v2 rfl rfl) h2
  obtain ⟨a3, rfl, rfl, rfl, w3⟩ := open_int Try.underlying2 (hval 3 2 v3 rfl rfl) h3
  refine (walk a0 A1 c1 l1 a2 a3 W w0 hc1 hm1 hr1 hk1 w2 w3).mono fun e W' ⟨he, bel⟩ => ?_
  subst he
  exact ⟨_, rfl, _, _, _, [], _, [], hW', trodAll_mk1 (shut_bool Try.underlying4 _), (trodAll_cons_mk (Below.trod laidOut (by kernel_rfl) (of_decide_eq_true (by kernel_rfl)) k0 bel lt0) (trodAll_cons_mk (Below.trod laidOut (by kernel_rfl) (of_decide_eq_true (by kernel_rfl)) k1 bel lt1) (trodAll_cons_mk (Below.trod laidOut (by kernel_rfl) (of_decide_eq_true (by kernel_rfl)) k2 bel lt2) (trodAll_cons_mk (Below.trod laidOut (by kernel_rfl) (of_decide_eq_true (by kernel_rfl)) k3 bel lt3) trodAll_mk0)))), rfl, bel.frame _, fun h => by cases h⟩

theorem over : Rows.fnExactMedianDiffRow.holds Try.pinned (OpenSpec.ofChange Rows.fnExactMedianDiffSpec) :=
  OpenClaim.holds_of_wide 4 Try.f4 rfl rfl rfl rfl rfl rfl rfl ⟨rfl, rfl, rfl, rfl, rfl⟩ rfl rfl rfl rfl rfl (by kernel_rfl) Try.func4 (by kernel_rfl)
    (of_decide_eq_true (by kernel_rfl)) (by unfold Func.isWrapper; first | (rw [if_pos (by decide +kernel)]; kernel_rfl) | (rw [if_neg (by decide +kernel)]; exact ⟨rfl, rfl⟩))
    (fun os started H enc _ => lifted os started H enc)

/-- The statement. -/
theorem proved : Rows.FnExactMedianDiffSaid := over
#print axioms proved
end Go.Proofs.Ytdbfebhmldbdbaa.fnExactMedianDiff
