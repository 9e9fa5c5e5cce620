/-
  PROVES: the law 'FnExactSpreadLeft' returns true for every input that can be read, and leaves its arguments as they were. It has no conditions.
-/
import Derived.Test.YtjflebgaemgeeaaRows
import Derived.Test.YtjflebgaemgeeaaPl
import Derived.Test.YtjflebgaemgeeaaFr
import Derived.Test.YtjflebgaemgeeaaSpread
import Derived.Test.YtjflebgaemgeeaaRecC
import Derived.WalkKit
import Derived.ProofKit
import Derived.OpenShut
import Derived.ShutString
import Derived.ChangeOld
import Derived.Below
namespace Go.Proofs.Ytjflebgaemgeeaa.fnExactSpreadLeft
open Go.ChangeShapes Go.WideShapes Go.ChangeAt Go.RowKit Pl
open Go.ChangeMaps (open_string shut_string)
set_option linter.unusedVariables false
set_option linter.unusedSimpArgs false

theorem own : ownKnob Try.prog.godebug = none := by kernel_rfl
theorem laidOut : laidOutB Try.prog = true := by kernel_rfl

theorem walk (a0 : Int) (A1 : Option Addr) (c1 : Nat) (l1 : List ComT) (A2 : Option Addr) (c2 : Nat) (l2 : List Int) (w : World) (w0 : okI a0) (hc1 : l1.length ≤ c1) (hm1 : c1 ≤ maxLen) (hr1 : Rd w w.heap.size 3 A1 l1.length (l1.flatMap ComT.cells)) (hk1 : ∀ x ∈ l1, ComT.ok x) (hc2 : l2.length ≤ c2) (hm2 : c2 ≤ maxLen) (hr2 : Rd w w.heap.size 1 A2 l2.length (ints l2)) (hk2 : ∀ x ∈ l2, okI x) :
    Calls Try.prog 4 #[.int .i64 a0, .slice A1 l1.length c1, .slice A2 l2.length c2] w fun e w' => e = .returned (.bool true) ∧ Below w.heap.size w w' := by
  have R1 := hide hr1
  have R2 := hide hr2
  have O1 := hide hk1
  clear hr1 hk1 hr2 hk2
  have T0 := hide (Below.refl w.heap.size w)
  by_cases hq2 : 1048576 < l2.length
  · unfold maxLen at hm2
    go_enter Try.func4, Try.ntmps4
    go_wp2
    go_ret
    exact ⟨rfl, T0.out⟩
  have hn2 : l2.length ≤ 1048576 := by omega
  clear hq2
  go_enter Try.func4, Try.ntmps4
  go_wp2_with fail
  refine (szCommonS_any A1 c1 l1 _ _ (by omega) (by omega) (Nat.le_trans hc1 hm1)).mono ?_
  rintro e w1 ⟨r1, rfl, hs1, b⟩
  rcases hs1 with rfl | ⟨hs1, ht1⟩
  · go_wp2
    go_ret
    exact ⟨rfl, T0.out.trans (b.mono T0.out.size)⟩
  have hn1 : l1.length ≤ 1048576 := by omega
  have T1 := hide (T0.out.trans (b.mono T0.out.size))
  have R1_ := hide ((R1.out.below b).more b.size)
  clear R1
  have R1 := R1_
  clear R1_
  have R2_ := hide ((R2.out.below b).more b.size)
  clear R2
  have R2 := R2_
  clear R2_
  clear b T0
  go_wp2_with fail
  refine (toCommonS_any A1 c1 l1 _ hn1 R1.out).mono ?_
  rintro e w2 ⟨rfl, b, k⟩
  have K1 := hide k
  clear k
  have T2 := hide (T1.out.trans (b.mono T1.out.size))
  have R1_ := hide ((R1.out.below b).more b.size)
  clear R1
  have R1 := R1_
  clear R1_
  have R2_ := hide ((R2.out.below b).more b.size)
  clear R2
  have R2 := R2_
  clear R2_
  clear b T1
  go_wp2_with fail
  refine (toInt64S_any A2 c2 l2 _ hn2 R2.out).mono ?_
  rintro e w3 ⟨rfl, b, k⟩
  have K2 := hide k
  clear k
  have T3 := hide (T2.out.trans (b.mono T2.out.size))
  have R1_ := hide ((R1.out.below b).more b.size)
  clear R1
  have R1 := R1_
  clear R1_
  have R2_ := hide ((R2.out.below b).more b.size)
  clear R2
  have R2 := R2_
  clear R2_
  have K1_ := hide (K1.out.below b K1.out.lt)
  clear K1
  have K1 := K1_
  clear K1_
  clear b T2
  go_wp2_with fail
  refine (spec_SpreadLeft_any _ _ _ l1 _ _ l2 _ hn1 hn2 (K1.out.readF ComT.cells_len K1.out.lt) (K2.out.rdI K2.out.lt)).mono ?_
  rintro e w4 ⟨rfl, b⟩
  have T4 := hide (T3.out.trans (b.mono T3.out.size))
  have R1_ := hide ((R1.out.below b).more b.size)
  clear R1
  have R1 := R1_
  clear R1_
  have R2_ := hide ((R2.out.below b).more b.size)
  clear R2
  have R2 := R2_
  clear R2_
  have K1_ := hide (K1.out.below b K1.out.lt)
  clear K1
  have K1 := K1_
  clear K1_
  have K2_ := hide (K2.out.below b K2.out.lt)
  clear K2
  have K2 := K2_
  clear K2_
  clear b T3
  go_wp2_with fail
  refine (toCommonS_any A1 c1 l1 _ hn1 R1.out).mono ?_
  rintro e w5 ⟨rfl, b, k⟩
  have K3 := hide k
  clear k
  have T5 := hide (T4.out.trans (b.mono T4.out.size))
  have R1_ := hide ((R1.out.below b).more b.size)
  clear R1
  have R1 := R1_
  clear R1_
  have R2_ := hide ((R2.out.below b).more b.size)
  clear R2
  have R2 := R2_
  clear R2_
  have K1_ := hide (K1.out.below b K1.out.lt)
  clear K1
  have K1 := K1_
  clear K1_
  have K2_ := hide (K2.out.below b K2.out.lt)
  clear K2
  have K2 := K2_
  clear K2_
  clear b T4
  go_wp2_with fail
  refine (toInt64S_any A2 c2 l2 _ hn2 R2.out).mono ?_
  rintro e w6 ⟨rfl, b, k⟩
  have K4 := hide k
  clear k
  have T6 := hide (T5.out.trans (b.mono T5.out.size))
  have R1_ := hide ((R1.out.below b).more b.size)
  clear R1
  have R1 := R1_
  clear R1_
  have R2_ := hide ((R2.out.below b).more b.size)
  clear R2
  have R2 := R2_
  clear R2_
  have K1_ := hide (K1.out.below b K1.out.lt)
  clear K1
  have K1 := K1_
  clear K1_
  have K2_ := hide (K2.out.below b K2.out.lt)
  clear K2
  have K2 := K2_
  clear K2_
  have K3_ := hide (K3.out.below b K3.out.lt)
  clear K3
  have K3 := K3_
  clear K3_
  clear b T5
  go_wp2_with fail
  refine (impl_SpreadLeft_any _ _ _ l1 _ _ l2 _ hn1 hn2 (K3.out.readF ComT.cells_len K3.out.lt) (K4.out.rdI K4.out.lt)).mono ?_
  rintro e w7 ⟨rfl, b⟩
  have T7 := hide (T6.out.trans (b.mono T6.out.size))
  have R1_ := hide ((R1.out.below b).more b.size)
  clear R1
  have R1 := R1_
  clear R1_
  have R2_ := hide ((R2.out.below b).more b.size)
  clear R2
  have R2 := R2_
  clear R2_
  have K1_ := hide (K1.out.below b K1.out.lt)
  clear K1
  have K1 := K1_
  clear K1_
  have K2_ := hide (K2.out.below b K2.out.lt)
  clear K2
  have K2 := K2_
  clear K2_
  have K3_ := hide (K3.out.below b K3.out.lt)
  clear K3
  have K3 := K3_
  clear K3_
  have K4_ := hide (K4.out.below b K4.out.lt)
  clear K4
  have K4 := K4_
  clear K4_
  clear b T6
  go_wp2_with fail
  refine (toCommonS_any A1 c1 l1 _ hn1 R1.out).mono ?_
  rintro e w8 ⟨rfl, b, k⟩
  have K5 := hide k
  clear k
  have T8 := hide (T7.out.trans (b.mono T7.out.size))
  have R1_ := hide ((R1.out.below b).more b.size)
  clear R1
  have R1 := R1_
  clear R1_
  have R2_ := hide ((R2.out.below b).more b.size)
  clear R2
  have R2 := R2_
  clear R2_
  have K1_ := hide (K1.out.below b K1.out.lt)
  clear K1
  have K1 := K1_
  clear K1_
  have K2_ := hide (K2.out.below b K2.out.lt)
  clear K2
  have K2 := K2_
  clear K2_
  have K3_ := hide (K3.out.below b K3.out.lt)
  clear K3
  have K3 := K3_
  clear K3_
  have K4_ := hide (K4.out.below b K4.out.lt)
  clear K4
  have K4 := K4_
  clear K4_
  clear b T7
  go_wp2_with fail
  refine (eqCommonS_same _ _ _ _ l1 _ hn1 (K3.out.readF ComT.cells_len K3.out.lt) (K5.out.readF ComT.cells_len K5.out.lt)).mono ?_
  rintro e w9 ⟨rfl, b⟩
  have T9 := hide (T8.out.trans (b.mono T8.out.size))
  have R1_ := hide ((R1.out.below b).more b.size)
  clear R1
  have R1 := R1_
  clear R1_
  have R2_ := hide ((R2.out.below b).more b.size)
  clear R2
  have R2 := R2_
  clear R2_
  have K1_ := hide (K1.out.below b K1.out.lt)
  clear K1
  have K1 := K1_
  clear K1_
  have K2_ := hide (K2.out.below b K2.out.lt)
  clear K2
  have K2 := K2_
  clear K2_
  have K3_ := hide (K3.out.below b K3.out.lt)
  clear K3
  have K3 := K3_
  clear K3_
  have K4_ := hide (K4.out.below b K4.out.lt)
  clear K4
  have K4 := K4_
  clear K4_
  have K5_ := hide (K5.out.below b K5.out.lt)
  clear K5
  have K5 := K5_
  clear K5_
  clear b T8
  go_wp2_with fail
  refine (toInt64S_any A2 c2 l2 _ hn2 R2.out).mono ?_
  rintro e w10 ⟨rfl, b, k⟩
  have K6 := hide k
  clear k
  have T10 := hide (T9.out.trans (b.mono T9.out.size))
  have R1_ := hide ((R1.out.below b).more b.size)
  clear R1
  have R1 := R1_
  clear R1_
  have R2_ := hide ((R2.out.below b).more b.size)
  clear R2
  have R2 := R2_
  clear R2_
  have K1_ := hide (K1.out.below b K1.out.lt)
  clear K1
  have K1 := K1_
  clear K1_
  have K2_ := hide (K2.out.below b K2.out.lt)
  clear K2
  have K2 := K2_
  clear K2_
  have K3_ := hide (K3.out.below b K3.out.lt)
  clear K3
  have K3 := K3_
  clear K3_
  have K4_ := hide (K4.out.below b K4.out.lt)
  clear K4
  have K4 := K4_
  clear K4_
  have K5_ := hide (K5.out.below b K5.out.lt)
  clear K5
  have K5 := K5_
  clear K5_
  clear b T9
  go_wp2_with fail
  refine (eqInt64S_same _ _ _ _ l2 _ hn2 (K4.out.rdI K4.out.lt) (K6.out.rdI K6.out.lt)).mono ?_
  rintro e w11 ⟨rfl, b⟩
  have T11 := hide (T10.out.trans (b.mono T10.out.size))
  have R1_ := hide ((R1.out.below b).more b.size)
  clear R1
  have R1 := R1_
  clear R1_
  have R2_ := hide ((R2.out.below b).more b.size)
  clear R2
  have R2 := R2_
  clear R2_
  have K1_ := hide (K1.out.below b K1.out.lt)
  clear K1
  have K1 := K1_
  clear K1_
  have K2_ := hide (K2.out.below b K2.out.lt)
  clear K2
  have K2 := K2_
  clear K2_
  have K3_ := hide (K3.out.below b K3.out.lt)
  clear K3
  have K3 := K3_
  clear K3_
  have K4_ := hide (K4.out.below b K4.out.lt)
  clear K4
  have K4 := K4_
  clear K4_
  have K5_ := hide (K5.out.below b K5.out.lt)
  clear K5
  have K5 := K5_
  clear K5_
  have K6_ := hide (K6.out.below b K6.out.lt)
  clear K6
  have K6 := K6_
  clear K6_
  clear b T10
  go_wp2
  go_ret
  exact ⟨rfl, T11.out⟩

set_option maxRecDepth 100000 in
theorem lifted (os : Os) (started : os.Started) (H : Type) (enc : TypeId × Value → H) :
    ReturnsInHanded {} Try.checked os 4 .any (Rows.fnExactSpreadLeftSpec.pre6 enc Try.prog Try.f4 Rows.fnExactSpreadLeftRow.domain false) (Rows.fnExactSpreadLeftSpec.post enc Try.prog Try.f4 false true false false) := by
  refine returnsInHanded_of_change (C := Try.checked) own started (by kernel_rfl) Try.func4
    (ChangeSpec.witness6 (enc := enc) (C := Try.checked) false ⟨#[], #[.int .i64 0, .slice none 0 0, .slice none 0 0], []⟩ 8 (by kernel_rfl) (by kernel_rfl) (by kernel_rfl) (by kernel_rfl)) ?_
  intro W base args ds gs before hval0 hW hcnd _
  have hval : ∀ (j : Nat) t v, Try.f4.params[j]? = some t → args[j]? = some v → Value.okWide Try.prog W .any base t v := hval0
  have hW' := hW
  obtain ⟨p, q, hA0, hV, rfl, hfz, hnd⟩ := hW
  have hA : DataW.TrodAll enc Try.prog W 0 (fun _ => true) true Try.f4.params.toList args.toList ds p := hA0
  rw [Try.params4] at hA hval
  obtain ⟨v0, vs0, d0, ds0, p0, q0, hargs, rfl, rfl, h0, r0⟩ := trodAll_cons hA
  obtain ⟨v1, vs1, d1, ds1, p1, q1, rfl, rfl, rfl, h1, r1⟩ := trodAll_cons r0
  obtain ⟨v2, vs2, d2, ds2, p2, q2, rfl, rfl, rfl, h2, r2⟩ := trodAll_cons r1
  obtain ⟨rfl, rfl, rfl⟩ := trodAll_nil r2
  obtain rfl : args = #[v0, v1, v2] := by cases args; simp_all
  obtain ⟨rfl, rfl⟩ := trodVars_none hV
  clear hA0 hval0 hnd hfz
  have k0 := h0
  have lt0 : ∀ x ∈ p0, x.block < W.heap.size := by obtain ⟨m, hm⟩ := k0; exact DataW.trod_lt m _ _ _ hm
  have k1 := h1
  have lt1 : ∀ x ∈ p1, x.block < W.heap.size := by obtain ⟨m, hm⟩ := k1; exact DataW.trod_lt m _ _ _ hm
  have k2 := h2
  have lt2 : ∀ x ∈ p2, x.block < W.heap.size := by obtain ⟨m, hm⟩ := k2; exact DataW.trod_lt m _ _ _ hm
  obtain ⟨a0, rfl, rfl, rfl, w0⟩ := open_int Try.underlying2 (hval 0 2 v0 rfl rfl) h0
  obtain ⟨A1, n1, c1, rfl⟩ := okWide_slice Try.underlying22 (hval 1 22 v1 rfl rfl)
  obtain ⟨hc1, hm1, l1, rfl, hr1, hk1⟩ := open_ComS h1
  obtain ⟨A2, n2, c2, rfl⟩ := okWide_slice Try.underlying29 (hval 2 29 v2 rfl rfl)
  obtain ⟨hc2, hm2, l2, rfl, hr2, hk2⟩ := open_intsS Try.underlying29 Try.underlying2 (by kernel_rfl) h2
  refine (walk a0 A1 c1 l1 A2 c2 l2 W w0 hc1 hm1 hr1 hk1 hc2 hm2 hr2 hk2).mono fun e W' ⟨he, bel⟩ => ?_
  subst he
  exact ⟨_, rfl, _, _, _, [], _, [], hW', trodAll_mk1 (shut_bool Try.underlying4 _), (trodAll_cons_mk (Below.trod laidOut (by kernel_rfl) (of_decide_eq_true (by kernel_rfl)) k0 bel lt0) (trodAll_cons_mk (Below.trod laidOut (by kernel_rfl) (of_decide_eq_true (by kernel_rfl)) k1 bel lt1) (trodAll_cons_mk (Below.trod laidOut (by kernel_rfl) (of_decide_eq_true (by kernel_rfl)) k2 bel lt2) trodAll_mk0))), rfl, bel.frame _, fun h => by cases h⟩

theorem over : Rows.fnExactSpreadLeftRow.holds Try.pinned (OpenSpec.ofChange Rows.fnExactSpreadLeftSpec) :=
  OpenClaim.holds_of_wide 4 Try.f4 rfl rfl rfl rfl rfl rfl rfl ⟨rfl, rfl, rfl, rfl, rfl⟩ rfl rfl rfl rfl rfl (by kernel_rfl) Try.func4 (by kernel_rfl)
    (of_decide_eq_true (by kernel_rfl)) (by unfold Func.isWrapper; first | (rw [if_pos (by decide +kernel)]; kernel_rfl) | (rw [if_neg (by decide +kernel)]; exact ⟨rfl, rfl⟩))
    (fun os started H enc _ => lifted os started H enc)

/-- The statement. -/
theorem proved : Rows.FnExactSpreadLeftSaid := over
#print axioms proved
end Go.Proofs.Ytjflebgaemgeeaa.fnExactSpreadLeft
