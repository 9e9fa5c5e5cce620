/-
  PROVES: the law 'FnExactLastOf' returns true for every input that can be read, and leaves its arguments as they were. It has no conditions.
-/
import Derived.Test.YtldgelkgobocdaaRows
import Derived.Test.YtldgelkgobocdaaPl
import Derived.Test.YtldgelkgobocdaaFr
import Derived.Test.YtldgelkgobocdaaLastB
import Derived.Test.YtldgelkgobocdaaRecE
import Derived.Test.YtldgelkgobocdaaCut
import Derived.WalkKit
import Derived.ProofKit
import Derived.OpenShut
import Derived.ShutString
import Derived.ChangeOld
import Derived.Below
namespace Go.Proofs.Ytldgelkgobocdaa.fnExactLastOf
open Go.ChangeShapes Go.WideShapes Go.ChangeAt Go.RowKit Pl
open Go.ChangeMaps (open_string shut_string)
set_option linter.unusedVariables false
set_option linter.unusedSimpArgs false

theorem own : ownKnob Try.prog.godebug = none := by kernel_rfl
theorem laidOut : laidOutB Try.prog = true := by kernel_rfl

set_option maxRecDepth 100000 in
set_option maxHeartbeats 4000000 in
theorem walk (A0 : Option Addr) (c0 : Nat) (l0 : List EstT) (a1 : ByteArray) (w : World) (hc0 : l0.length ≤ c0) (hm0 : c0 ≤ maxLen) (hr0 : Rd w w.heap.size 5 A0 l0.length (l0.flatMap EstT.cells)) (hk0 : ∀ x ∈ l0, EstT.ok x) (w1 : okS a1) :
    Calls Try.prog 7 #[.slice A0 l0.length c0, .string a1] w fun e w' => e = .returned (.bool true) ∧ Below w.heap.size w w' := by
  have HR0 := hide hr0
  have O0 := hide hk0
  clear hr0 hk0
  have T0 := hide (Below.refl w.heap.size w)
  by_cases hq1 : 1048576 < a1.size
  · unfold okS maxLen at w1
    go_enter Try.func7, Try.ntmps7
    go_wp2
    go_ret
    exact ⟨rfl, T0.out⟩
  have hn1 : a1.size ≤ 1048576 := by omega
  have hs1 : a1.size ≤ maxLen := by unfold maxLen; omega
  clear hq1
  go_enter Try.func7, Try.ntmps7
  go_wp2_with fail
  refine (szEstimateS_any A0 c0 l0 _ _ (by omega) (by omega) (Nat.le_trans hc0 hm0) ((HR0.out.below T0.out).more T0.out.size) O0.out).mono ?_
  rintro e w1 ⟨r0, rfl, hs0, b⟩
  rcases hs0 with rfl | ⟨hs0, ht0⟩
  · go_wp2
    go_ret
    exact ⟨rfl, (T0.out.trans (b.mono T0.out.size))⟩
  have hn0 : l0.length ≤ 1048576 := by omega
  have T1 := hide (T0.out.trans (b.mono T0.out.size))
  clear b
  go_wp2_with fail
  refine (toEstimateS_any A0 c0 l0 _ hn0 ((HR0.out.below T1.out).more T1.out.size)).mono ?_
  rintro e w2 ⟨rfl, b, k⟩
  have Y0 := hide (Bk.ownF (lo := w1.heap.size) EstT.cells_len k (Nat.le_refl _) (by unfold maxLen; omega))
  clear k
  have T2 := hide (T1.out.trans (b.mono T1.out.size))
  clear b
  go_wp2_with fail
  refine (spec_LastOf_any _ _ _ _ _ hn0 hs1 O0.out Y0.out.rd).mono ?_
  rintro e w3 ⟨rfl, b⟩
  have T3 := hide (T2.out.trans (b.mono T2.out.size))
  clear b Y0
  obtain ⟨⟨x, code⟩, hp⟩ : ∃ p, lastOf l0 a1 = p := ⟨_, rfl⟩
  have HP := hide hp
  rw [hp]
  clear hp
  obtain ⟨wa, hwa⟩ : ∃ wa, wa = w3.alloc (.cells #[.int .i64 x.time, .string x.star, .string x.obs, .int .i64 x.mag, .bool x.fain] 49) := ⟨_, rfl⟩
  have EA := hide (show Below w3.heap.size w3 wa from hwa ▸ (Below.refl _ _).alloc (Nat.le_refl _) _)
  have BA := hide (show Bk wa w3.heap.size 49 #[.int .i64 x.time, .string x.star, .string x.obs, .int .i64 x.mag, .bool x.fain] from by rw [hwa]; exact Bk.new _ _ _)
  have T4 := hide (T3.out.trans (EA.out.mono T3.out.size))
  have HA := hide hwa
  clear hwa
  go_wp2_with fail
  rw [← HA.out]
  refine (toEstimateS_any A0 c0 l0 _ hn0 ((HR0.out.below T4.out).more T4.out.size)).mono ?_
  rintro e w5 ⟨rfl, b, k⟩
  have X0 := hide (Bk.ownF (lo := wa.heap.size) EstT.cells_len k (Nat.le_refl _) (by unfold maxLen; omega))
  have BA5 := hide (BA.out.below b BA.out.lt)
  clear k
  have T5 := hide (T4.out.trans (b.mono T4.out.size))
  clear b BA
  go_wp2_with fail
  refine (impl_LastOf_any _ _ _ _ _ hn0 hs1 O0.out X0.out.rd).mono ?_
  rintro e w6 ⟨rfl, b⟩
  rw [HP.out]
  have X0_ := hide (X0.out.below b)
  have BA6 := hide (BA5.out.below b BA5.out.lt)
  have T6 := hide (T5.out.trans (b.mono T5.out.size))
  clear b X0 BA5
  obtain ⟨wb, hwb⟩ : ∃ wb, wb = w6.alloc (.cells #[.int .i64 x.time, .string x.star, .string x.obs, .int .i64 x.mag, .bool x.fain] 49) := ⟨_, rfl⟩
  have EB := hide (show Below w6.heap.size w6 wb from hwb ▸ (Below.refl _ _).alloc (Nat.le_refl _) _)
  have BB := hide (show Bk wb w6.heap.size 49 #[.int .i64 x.time, .string x.star, .string x.obs, .int .i64 x.mag, .bool x.fain] from by rw [hwb]; exact Bk.new _ _ _)
  have BA7 := hide (BA6.out.below EB.out BA6.out.lt)
  have X7 := hide (X0_.out.below EB.out)
  have T7 := hide (T6.out.trans (EB.out.mono T6.out.size))
  have HB := hide hwb
  clear hwb X0_ BA6
  have y0 := BB.out.cell 0
  have y1 := BB.out.cell 1
  have y2 := BB.out.cell 2
  have y3 := BB.out.cell 3
  have y4 := BB.out.cell 4
  have z0 := BA7.out.cell 0
  have z1 := BA7.out.cell 1
  have z2 := BA7.out.cell 2
  have z3 := BA7.out.cell 3
  have z4 := BA7.out.cell 4
  simp at y0 y1 y2 y3 y4 z0 z1 z2 z3 z4
  go_upto_region 10 with fail
  rw [← HB.out]
  go_wp2_with fail
  refine (eqEstimate_same _ _ _ _ _ _).mono ?_
  rintro e w8 ⟨rfl, b⟩
  have X8 := hide (X7.out.below b)
  have T8 := hide (T7.out.trans (b.mono T7.out.size))
  clear b X7 y0 y1 y2 y3 y4 z0 z1 z2 z3 z4 BB BA7
  go_wp2_with fail
  refine (toEstimateS_any A0 c0 l0 _ hn0 ((HR0.out.below T8.out).more T8.out.size)).mono ?_
  rintro e w9 ⟨rfl, b, k⟩
  have Z0 := hide (Bk.ownF (lo := w8.heap.size) EstT.cells_len k (Nat.le_refl _) (by unfold maxLen; omega))
  clear k
  have X9 := hide (X8.out.below b)
  have T9 := hide (T8.out.trans (b.mono T8.out.size))
  clear b X8
  go_wp2_with fail
  refine (eqEstimateS_same _ _ _ _ l0 _ hn0 X9.out.rd Z0.out.rd).mono ?_
  rintro e w10 ⟨rfl, b⟩
  have T10 := hide (T9.out.trans (b.mono T9.out.size))
  clear b
  go_wp2
  go_ret
  exact ⟨rfl, T10.out⟩

set_option maxRecDepth 100000 in
theorem lifted (os : Os) (started : os.Started) (H : Type) (enc : TypeId × Value → H) :
    ReturnsInHanded {} Try.checked os 7 .any (Rows.fnExactLastOfSpec.pre6 enc Try.prog Try.f7 Rows.fnExactLastOfRow.domain false) (Rows.fnExactLastOfSpec.post enc Try.prog Try.f7 false true false false) := by
  refine returnsInHanded_of_change (C := Try.checked) own started (by kernel_rfl) Try.func7
    (ChangeSpec.witness6 (enc := enc) (C := Try.checked) false ⟨#[], #[.slice none 0 0, .string ⟨#[]⟩], []⟩ 8 (by kernel_rfl) (by kernel_rfl) (by kernel_rfl) (by kernel_rfl)) ?_
  intro W base args ds gs before hval0 hW hcnd _
  have hval : ∀ (j : Nat) t v, Try.f7.params[j]? = some t → args[j]? = some v → Value.okWide Try.prog W .any base t v := hval0
  have hW' := hW
  obtain ⟨p, q, hA0, hV, rfl, hfz, hnd⟩ := hW
  have hA : DataW.TrodAll enc Try.prog W 0 (fun _ => true) true Try.f7.params.toList args.toList ds p := hA0
  rw [Try.params7] at hA hval
  obtain ⟨v0, vs0, d0, ds0, p0, q0, hargs, rfl, rfl, h0, r0⟩ := trodAll_cons hA
  obtain ⟨v1, vs1, d1, ds1, p1, q1, rfl, rfl, rfl, h1, r1⟩ := trodAll_cons r0
  obtain ⟨rfl, rfl, rfl⟩ := trodAll_nil r1
  obtain rfl : args = #[v0, v1] := by cases args; simp_all
  obtain ⟨rfl, rfl⟩ := trodVars_none hV
  clear hA0 hval0 hnd hfz
  have k0 := h0
  have lt0 : ∀ x ∈ p0, x.block < W.heap.size := by obtain ⟨m, hm⟩ := k0; exact DataW.trod_lt m _ _ _ hm
  have k1 := h1
  have lt1 : ∀ x ∈ p1, x.block < W.heap.size := by obtain ⟨m, hm⟩ := k1; exact DataW.trod_lt m _ _ _ hm
  obtain ⟨A0, n0, c0, rfl⟩ := okWide_slice Try.underlying46 (hval 0 46 v0 rfl rfl)
  obtain ⟨hc0, hm0, l0, rfl, hr0, hk0⟩ := open_EstS h0
  obtain ⟨a1, rfl, rfl, rfl, w1⟩ := open_string Try.underlying9 (hval 1 9 v1 rfl rfl) h1
  refine (walk A0 c0 l0 a1 W hc0 hm0 hr0 hk0 w1).mono fun e W' ⟨he, bel⟩ => ?_
  subst he
  exact ⟨_, rfl, _, _, _, [], _, [], hW', trodAll_mk1 (shut_bool Try.underlying4 _), (trodAll_cons_mk (Below.trod laidOut (by kernel_rfl) (of_decide_eq_true (by kernel_rfl)) k0 bel lt0) (trodAll_cons_mk (Below.trod laidOut (by kernel_rfl) (of_decide_eq_true (by kernel_rfl)) k1 bel lt1) trodAll_mk0)), rfl, bel.frame _, fun h => by cases h⟩

theorem over : Rows.fnExactLastOfRow.holds Try.pinned (OpenSpec.ofChange Rows.fnExactLastOfSpec) :=
  OpenClaim.holds_of_wide 7 Try.f7 rfl rfl rfl rfl rfl rfl rfl ⟨rfl, rfl, rfl, rfl, rfl⟩ rfl rfl rfl rfl rfl (by kernel_rfl) Try.func7 (by kernel_rfl)
    (of_decide_eq_true (by kernel_rfl)) (by unfold Func.isWrapper; first | (rw [if_pos (by decide +kernel)]; kernel_rfl) | (rw [if_neg (by decide +kernel)]; exact ⟨rfl, rfl⟩))
    (fun os started H enc _ => lifted os started H enc)

/-- The statement. -/
theorem proved : Rows.FnExactLastOfSaid := over
#print axioms proved
end Go.Proofs.Ytldgelkgobocdaa.fnExactLastOf
