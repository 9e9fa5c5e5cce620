/-
  PROVES: the law 'FnExactCorrectMag' returns true for every input that can be read, and leaves its arguments as they were. It has no conditions.
-/
import Derived.Test.YtldgelkgobocdaaRows
import Derived.Test.YtldgelkgobocdaaPl
import Derived.Test.YtldgelkgobocdaaFr
import Derived.Test.YtldgelkgobocdaaCorrect
import Derived.Test.YtldgelkgobocdaaRecO
import Derived.WalkKit
import Derived.ProofKit
import Derived.OpenShut
import Derived.ShutString
import Derived.ChangeOld
import Derived.Below
namespace Go.Proofs.Ytldgelkgobocdaa.fnExactCorrectMag
open Go.ChangeShapes Go.WideShapes Go.ChangeAt Go.RowKit Pl
open Go.ChangeMaps (open_string shut_string)
set_option linter.unusedVariables false
set_option linter.unusedSimpArgs false

theorem own : ownKnob Try.prog.godebug = none := by kernel_rfl
theorem laidOut : laidOutB Try.prog = true := by kernel_rfl

theorem walk (A0 : Option Addr) (c0 : Nat) (l0 : List ObsT) (a1 : ByteArray) (a2 : Int) (w : World) (hc0 : l0.length ≤ c0) (hm0 : c0 ≤ maxLen) (hr0 : Rd w w.heap.size 2 A0 l0.length (l0.flatMap ObsT.cells)) (hk0 : ∀ x ∈ l0, ObsT.ok x) (w1 : okS a1) (w2 : okI a2) :
    Calls Try.prog 5 #[.slice A0 l0.length c0, .string a1, .int .i64 a2] w fun e w' => e = .returned (.bool true) ∧ Below w.heap.size w w' := by
  have R0 := hide hr0
  have O0 := hide hk0
  clear hr0 hk0
  have T0 := hide (Below.refl w.heap.size w)
  by_cases hq1 : 1048576 < a1.size
  · unfold okS maxLen at w1
    go_enter Try.func5, Try.ntmps5
    go_wp2
    go_ret
    exact ⟨rfl, T0.out⟩
  have hn1 : a1.size ≤ 1048576 := by omega
  clear hq1
  go_enter Try.func5, Try.ntmps5
  go_wp2_with fail
  refine (szObserverS_any A0 c0 l0 _ _ (by omega) (by omega) (Nat.le_trans hc0 hm0) R0.out O0.out).mono ?_
  rintro e w1 ⟨r0, rfl, hs0, b⟩
  rcases hs0 with rfl | ⟨hs0, ht0⟩
  · go_wp2
    go_ret
    exact ⟨rfl, T0.out.trans (b.mono T0.out.size)⟩
  have hn0 : l0.length ≤ 1048576 := by omega
  have T1 := hide (T0.out.trans (b.mono T0.out.size))
  have R0_ := hide ((R0.out.below b).more b.size)
  clear R0
  have R0 := R0_
  clear R0_
  clear b T0
  go_wp2_with fail
  refine (toObserverS_any A0 c0 l0 _ hn0 R0.out).mono ?_
  rintro e w2 ⟨rfl, b, k⟩
  have K1 := hide k
  clear k
  have T2 := hide (T1.out.trans (b.mono T1.out.size))
  have R0_ := hide ((R0.out.below b).more b.size)
  clear R0
  have R0 := R0_
  clear R0_
  clear b T1
  go_wp2_with fail
  refine (spec_CorrectMag_any _ _ l0 _ _ _ hn0 O0.out (K1.out.readF ObsT.cells_len K1.out.lt)).mono ?_
  rintro e w3 ⟨rfl, b⟩
  have T3 := hide (T2.out.trans (b.mono T2.out.size))
  have R0_ := hide ((R0.out.below b).more b.size)
  clear R0
  have R0 := R0_
  clear R0_
  have K1_ := hide (K1.out.below b K1.out.lt)
  clear K1
  have K1 := K1_
  clear K1_
  clear b T2
  go_wp2_with fail
  refine (toObserverS_any A0 c0 l0 _ hn0 R0.out).mono ?_
  rintro e w4 ⟨rfl, b, k⟩
  have K2 := hide k
  clear k
  have T4 := hide (T3.out.trans (b.mono T3.out.size))
  have R0_ := hide ((R0.out.below b).more b.size)
  clear R0
  have R0 := R0_
  clear R0_
  have K1_ := hide (K1.out.below b K1.out.lt)
  clear K1
  have K1 := K1_
  clear K1_
  clear b T3
  go_wp2_with fail
  refine (impl_CorrectMag_any _ _ l0 _ _ _ hn0 O0.out (K2.out.readF ObsT.cells_len K2.out.lt)).mono ?_
  rintro e w5 ⟨rfl, b⟩
  have T5 := hide (T4.out.trans (b.mono T4.out.size))
  have R0_ := hide ((R0.out.below b).more b.size)
  clear R0
  have R0 := R0_
  clear R0_
  have K1_ := hide (K1.out.below b K1.out.lt)
  clear K1
  have K1 := K1_
  clear K1_
  have K2_ := hide (K2.out.below b K2.out.lt)
  clear K2
  have K2 := K2_
  clear K2_
  clear b T4
  go_wp2_with fail
  refine (toObserverS_any A0 c0 l0 _ hn0 R0.out).mono ?_
  rintro e w6 ⟨rfl, b, k⟩
  have K3 := hide k
  clear k
  have T6 := hide (T5.out.trans (b.mono T5.out.size))
  have R0_ := hide ((R0.out.below b).more b.size)
  clear R0
  have R0 := R0_
  clear R0_
  have K1_ := hide (K1.out.below b K1.out.lt)
  clear K1
  have K1 := K1_
  clear K1_
  have K2_ := hide (K2.out.below b K2.out.lt)
  clear K2
  have K2 := K2_
  clear K2_
  clear b T5
  go_wp2_with fail
  refine (eqObserverS_same _ _ _ _ l0 _ hn0 (K2.out.readF ObsT.cells_len K2.out.lt) (K3.out.readF ObsT.cells_len K3.out.lt)).mono ?_
  rintro e w7 ⟨rfl, b⟩
  have T7 := hide (T6.out.trans (b.mono T6.out.size))
  have R0_ := hide ((R0.out.below b).more b.size)
  clear R0
  have R0 := R0_
  clear R0_
  have K1_ := hide (K1.out.below b K1.out.lt)
  clear K1
  have K1 := K1_
  clear K1_
  have K2_ := hide (K2.out.below b K2.out.lt)
  clear K2
  have K2 := K2_
  clear K2_
  have K3_ := hide (K3.out.below b K3.out.lt)
  clear K3
  have K3 := K3_
  clear K3_
  clear b T6
  go_wp2
  go_ret
  exact ⟨rfl, T7.out⟩

set_option maxRecDepth 100000 in
theorem lifted (os : Os) (started : os.Started) (H : Type) (enc : TypeId × Value → H) :
    ReturnsInHanded {} Try.checked os 5 .any (Rows.fnExactCorrectMagSpec.pre6 enc Try.prog Try.f5 Rows.fnExactCorrectMagRow.domain false) (Rows.fnExactCorrectMagSpec.post enc Try.prog Try.f5 false true false false) := by
  refine returnsInHanded_of_change (C := Try.checked) own started (by kernel_rfl) Try.func5
    (ChangeSpec.witness6 (enc := enc) (C := Try.checked) false ⟨#[], #[.slice none 0 0, .string ⟨#[]⟩, .int .i64 0], []⟩ 8 (by kernel_rfl) (by kernel_rfl) (by kernel_rfl) (by kernel_rfl)) ?_
  intro W base args ds gs before hval0 hW hcnd _
  have hval : ∀ (j : Nat) t v, Try.f5.params[j]? = some t → args[j]? = some v → Value.okWide Try.prog W .any base t v := hval0
  have hW' := hW
  obtain ⟨p, q, hA0, hV, rfl, hfz, hnd⟩ := hW
  have hA : DataW.TrodAll enc Try.prog W 0 (fun _ => true) true Try.f5.params.toList args.toList ds p := hA0
  rw [Try.params5] at hA hval
  obtain ⟨v0, vs0, d0, ds0, p0, q0, hargs, rfl, rfl, h0, r0⟩ := trodAll_cons hA
  obtain ⟨v1, vs1, d1, ds1, p1, q1, rfl, rfl, rfl, h1, r1⟩ := trodAll_cons r0
  obtain ⟨v2, vs2, d2, ds2, p2, q2, rfl, rfl, rfl, h2, r2⟩ := trodAll_cons r1
  obtain ⟨rfl, rfl, rfl⟩ := trodAll_nil r2
  obtain rfl : args = #[v0, v1, v2] := by cases args; simp_all
  obtain ⟨rfl, rfl⟩ := trodVars_none hV
  clear hA0 hval0 hnd hfz
  have k0 := h0
  have lt0 : ∀ x ∈ p0, x.block < W.heap.size := by obtain ⟨m, hm⟩ := k0; exact DataW.trod_lt m _ _ _ hm
  have k1 := h1
  have lt1 : ∀ x ∈ p1, x.block < W.heap.size := by obtain ⟨m, hm⟩ := k1; exact DataW.trod_lt m _ _ _ hm
  have k2 := h2
  have lt2 : ∀ x ∈ p2, x.block < W.heap.size := by obtain ⟨m, hm⟩ := k2; exact DataW.trod_lt m _ _ _ hm
  obtain ⟨A0, n0, c0, rfl⟩ := okWide_slice Try.underlying22 (hval 0 22 v0 rfl rfl)
  obtain ⟨hc0, hm0, l0, rfl, hr0, hk0⟩ := open_ObsS h0
  obtain ⟨a1, rfl, rfl, rfl, w1⟩ := open_string Try.underlying9 (hval 1 9 v1 rfl rfl) h1
  obtain ⟨a2, rfl, rfl, rfl, w2⟩ := open_int Try.underlying2 (hval 2 2 v2 rfl rfl) h2
  refine (walk A0 c0 l0 a1 a2 W hc0 hm0 hr0 hk0 w1 w2).mono fun e W' ⟨he, bel⟩ => ?_
  subst he
  exact ⟨_, rfl, _, _, _, [], _, [], hW', trodAll_mk1 (shut_bool Try.underlying4 _), (trodAll_cons_mk (Below.trod laidOut (by kernel_rfl) (of_decide_eq_true (by kernel_rfl)) k0 bel lt0) (trodAll_cons_mk (Below.trod laidOut (by kernel_rfl) (of_decide_eq_true (by kernel_rfl)) k1 bel lt1) (trodAll_cons_mk (Below.trod laidOut (by kernel_rfl) (of_decide_eq_true (by kernel_rfl)) k2 bel lt2) trodAll_mk0))), rfl, bel.frame _, fun h => by cases h⟩

theorem over : Rows.fnExactCorrectMagRow.holds Try.pinned (OpenSpec.ofChange Rows.fnExactCorrectMagSpec) :=
  OpenClaim.holds_of_wide 5 Try.f5 rfl rfl rfl rfl rfl rfl rfl ⟨rfl, rfl, rfl, rfl, rfl⟩ rfl rfl rfl rfl rfl (by kernel_rfl) Try.func5 (by kernel_rfl)
    (of_decide_eq_true (by kernel_rfl)) (by unfold Func.isWrapper; first | (rw [if_pos (by decide +kernel)]; kernel_rfl) | (rw [if_neg (by decide +kernel)]; exact ⟨rfl, rfl⟩))
    (fun os started H enc _ => lifted os started H enc)

/-- The statement. -/
theorem proved : Rows.FnExactCorrectMagSaid := over
#print axioms proved
end Go.Proofs.Ytldgelkgobocdaa.fnExactCorrectMag
