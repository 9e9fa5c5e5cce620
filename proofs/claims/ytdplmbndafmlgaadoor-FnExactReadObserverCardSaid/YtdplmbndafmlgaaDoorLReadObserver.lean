/-
  PROVES: the law 'FnExactReadObserver' returns true for every input that can be read, and leaves its arguments as they were. It has no conditions.
-/
import Derived.Test.YtdplmbndafmlgaaDoorRows
import Derived.Test.YtdplmbndafmlgaaDoorPl
import Derived.Test.YtdplmbndafmlgaaDoorFr
import Derived.Test.YtdplmbndafmlgaaDoorRoB
import Derived.Test.YtdplmbndafmlgaaDoorFrT
import Derived.Test.YtdplmbndafmlgaaDoorFrS
import Derived.Test.YtdplmbndafmlgaaDoorFrX
import Derived.Test.YtdplmbndafmlgaaDoorCards
import Derived.Test.YtdplmbndafmlgaaDoorTie
import Derived.LaidMore
import Derived.Lay
import Derived.SevenTiedAt
import Derived.Stop.Joined
import Derived.WalkKit
import Derived.ProofKit
import Derived.OpenShut
import Derived.ShutString
import Derived.ChangeOld
import Derived.Below
namespace Go.Proofs.YtdplmbndafmlgaaDoor.fnExactReadObserver
open Go.ChangeShapes Go.WideShapes Go.ChangeAt Go.RowKit Pl
open Go.ChangeMaps (open_string shut_string)
set_option linter.unusedVariables false
set_option linter.unusedSimpArgs false

theorem own : ownKnob Tryd.prog.godebug = none := by kernel_rfl
theorem laidOut : laidOutB Tryd.prog = true := by kernel_rfl

theorem walk (a0 : ByteArray) (w : World) (w0 : okS a0) (T : Tab w) (S : Sen w) (X : Mx w) :
    Calls Tryd.prog 14 #[.string a0] w fun e w' => e = .returned (.bool true) ∧ Below w.heap.size w w' := by
  have HT := hide T
  have HS := hide S
  have HX := hide X
  clear T S X
  have HB0 := hide (Below.refl w.heap.size w)
  by_cases hq : 1048576 < a0.size
  · unfold okS maxLen at w0
    go_enter Tryd.func14, Tryd.ntmps14
    go_wp2
    go_ret
    exact ⟨rfl, HB0.out⟩
  obtain ⟨l, rfl⟩ : ∃ l : List UInt8, a0 = ⟨l.toArray⟩ := ⟨a0.data.toList, by cases a0; simp⟩
  have hl : l.length ≤ 1048576 := by
    have h : (⟨l.toArray⟩ : ByteArray).size = l.length := rfl
    omega
  clear hq w0
  go_enter Tryd.func14, Tryd.ntmps14
  go_wp2_with fail
  refine (spec_ReadObserver_any l (by omega) _).mono ?_
  rintro e w1 ⟨rfl, b⟩
  have HB1 := hide (HB0.out.trans (b.mono HB0.out.size))
  clear b
  obtain ⟨wa, hwa⟩ : ∃ wa, wa = w1.alloc (.cells #[.string ⟨(ro l).1.toArray⟩, .int .i64 (ro l).2.1] 28) := ⟨_, rfl⟩
  have E0 := hide (show Below w1.heap.size w1 wa from hwa ▸ (Below.refl _ _).alloc (Nat.le_refl _) _)
  have hz0 : w1.heap.size < wa.heap.size := by rw [hwa]; simp
  have HB2 := hide (HB1.out.trans (E0.out.mono HB1.out.size))
  have C0 := hide (show wa.cell? ⟨w1.heap.size, 0, none⟩ = some (.string ⟨(ro l).1.toArray⟩) from by rw [hwa]; simp [go_sem])
  have C1 := hide (show wa.cell? ⟨w1.heap.size, 1, none⟩ = some (.int .i64 (ro l).2.1) from by rw [hwa]; simp [go_sem])
  have HW := hide hwa
  clear hwa
  go_wp2_with fail
  rw [← HW.out]
  refine (impl_ReadObserver_any l (by omega) _ (HT.out.below HB2.out) (HS.out.below HB2.out) (HX.out.below HB2.out)).mono ?_
  rintro e w2 ⟨rfl, b⟩
  have HB3 := hide (HB2.out.trans (b.mono HB2.out.size))
  have x0 := (b.cell (p := ⟨w1.heap.size, 0, none⟩) hz0).trans C0.out
  have x1 := (b.cell (p := ⟨w1.heap.size, 1, none⟩) hz0).trans C1.out
  have hz2 := b.size
  have hz3 : w1.heap.size < w2.heap.size := by omega
  clear b
  obtain ⟨wb, hwb⟩ : ∃ wb, wb = w2.alloc (.cells #[.string ⟨(ro l).1.toArray⟩, .int .i64 (ro l).2.1] 28) := ⟨_, rfl⟩
  have EB := hide (show Below w2.heap.size w2 wb from hwb ▸ (Below.refl _ _).alloc (Nat.le_refl _) _)
  have hz4 : w2.heap.size < wb.heap.size := by rw [hwb]; simp
  have HB4 := hide (HB3.out.trans (EB.out.mono HB3.out.size))
  have y0 : wb.cell? ⟨w2.heap.size, 0, none⟩ = some (.string ⟨(ro l).1.toArray⟩) := by rw [hwb]; simp [go_sem]
  have z0 := (EB.out.cell (p := ⟨w1.heap.size, 0, none⟩) hz3).trans x0
  have y1 : wb.cell? ⟨w2.heap.size, 1, none⟩ = some (.int .i64 (ro l).2.1) := by rw [hwb]; simp [go_sem]
  have z1 := (EB.out.cell (p := ⟨w1.heap.size, 1, none⟩) hz3).trans x1
  have HWB := hide hwb
  clear hwb x0 x1
  go_upto_region 5 with fail
  rw [← HWB.out]
  go_wp2_with fail
  refine (eqObserver_same _ _ _).mono ?_
  rintro e w3 ⟨rfl, b⟩
  have HB5 := hide (HB4.out.trans (b.mono HB4.out.size))
  clear b y0 z0 y1 z1
  go_wp2
  go_ret
  exact ⟨rfl, HB5.out⟩

theorem tabOf {W : World} (h : laidMetH Tryd.prog Rows.fnExactReadObserverRow.laid W) : Tab W := by
  rw [MakeChecks.laidMetH_plain _ _ _ (by kernel_rfl)] at h
  exact tab3 h

theorem senOf {W : World} (h : laidMetH Tryd.prog Rows.fnExactReadObserverRow.laid W) : Sen W := by
  rw [MakeChecks.laidMetH_plain _ _ _ (by kernel_rfl)] at h
  exact sen5 h

set_option maxRecDepth 100000 in
theorem lifted (os : Os) (started : os.Started) (H : Type) (enc : TypeId × Value → H) :
    ReturnsInHanded {} Tryd.checked os 14 .any (fun w args => (Rows.fnExactReadObserverSpec.pre enc Tryd.prog Tryd.f14 Rows.fnExactReadObserverRow.domain false w args ∧ laidMetH Tryd.prog Rows.fnExactReadObserverRow.laid w) ∧ sizedMet enc Tryd.prog Tryd.f14 (OpenSpec.ofChange Rows.fnExactReadObserverSpec) false w args) (Rows.fnExactReadObserverSpec.post enc Tryd.prog Tryd.f14 false true false false) := by
  refine handed_shaped (C := Tryd.checked) (X := fun w _ => laidMetH Tryd.prog Rows.fnExactReadObserverRow.laid w) (fun _ _ _ hh h => h.of_heap hh) own started (by kernel_rfl) Tryd.func14
    (ChangeSpec.witness_shaped (enc := enc) (C := Tryd.checked) (os := os) (X := fun w _ => laidMetH Tryd.prog Rows.fnExactReadObserverRow.laid w) false (World.laidAll Tryd.prog os Rows.fnExactReadObserverRow.laid) #[.string ⟨#[]⟩] 8 (World.laidAll_os _ _ _)
      (World.shaped_of_ZipB (by kernel_rfl) (by kernel_rfl)) (by kernel_rfl) (by kernel_rfl) (by kernel_rfl)
      (by rw [MakeChecks.laidMetH_plain _ _ _ (by kernel_rfl)]; exact laidMet_laidAll _ (by kernel_rfl) (by kernel_rfl))) ?_
  intro W base args ds gs before hsh hval0 hW hL
  have hval : ∀ (j : Nat) t v, Tryd.f14.params[j]? = some t → args[j]? = some v → Value.okWide Tryd.prog W .any base t v := hval0
  have hW' := hW
  obtain ⟨p, q, hA0, hV, rfl, hfz, hnd⟩ := hW
  have hA : DataW.TrodAll enc Tryd.prog W 0 (fun _ => true) true Tryd.f14.params.toList args.toList ds p := hA0
  rw [Tryd.params14] at hA hval
  obtain ⟨v0, vs0, d0, ds0, p0, q0, hargs, rfl, rfl, h0, r0⟩ := trodAll_cons hA
  obtain ⟨rfl, rfl, rfl⟩ := trodAll_nil r0
  obtain rfl : args = #[v0] := by cases args; simp_all
  obtain ⟨rfl, rfl⟩ := trodVars_none hV
  clear hA0 hval0 hnd hfz
  have k0 := h0
  have lt0 : ∀ x ∈ p0, x.block < W.heap.size := by obtain ⟨m, hm⟩ := k0; exact DataW.trod_lt m _ _ _ hm
  obtain ⟨a0, rfl, rfl, rfl, w0⟩ := open_string Tryd.underlying9 (hval 0 9 v0 rfl rfl) h0
  refine (walk a0 W w0 (tabOf hL) (senOf hL) (mxOf hsh)).mono fun e W' ⟨he, bel⟩ => ?_
  subst he
  exact ⟨_, rfl, _, _, _, [], _, [], hW', trodAll_mk1 (shut_bool Tryd.underlying4 _), (trodAll_cons_mk (Below.trod laidOut (by kernel_rfl) (of_decide_eq_true (by kernel_rfl)) k0 bel lt0) trodAll_mk0), rfl, bel.frame _, fun h => by cases h⟩

theorem over : Rows.fnExactReadObserverRow.holds Tryd.pinned (OpenSpec.ofChange Rows.fnExactReadObserverSpec) :=
  OpenClaim.holds_of_wide 14 Tryd.f14 rfl rfl rfl rfl rfl rfl rfl ⟨rfl, rfl, rfl, rfl, rfl⟩ rfl rfl rfl rfl rfl (by kernel_rfl) Tryd.func14 (by kernel_rfl)
    (of_decide_eq_true (by kernel_rfl)) (by unfold Func.isWrapper; first | (rw [if_pos (by decide +kernel)]; kernel_rfl) | (rw [if_neg (by decide +kernel)]; exact ⟨rfl, rfl⟩))
    (fun os started H enc _ => lifted os started H enc)

theorem plain (f : FuncId) (fn : Func) (hf : Tryd.pinned.checked.prog.funcNamed Rows.fnExactReadObserverRow.func = some f) (hfn : Tryd.pinned.checked.prog.funcs[f]? = some fn) :
    true = Tryd.pinned.checked.prog.looks [] ∧ ∀ (j : Nat) t, fn.params[j]? = some t → Tryd.pinned.checked.prog.wantsStandIn t = false := by
  obtain rfl : f = 14 := Option.some.inj ((show Tryd.prog.funcNamed Rows.fnExactReadObserverRow.func = some 14 by kernel_rfl).symm.trans hf) |>.symm
  obtain rfl : fn = Tryd.f14 := (Option.some.inj (Tryd.func14.symm.trans hfn)).symm
  refine ⟨by kernel_rfl, fun j t ht => ?_⟩
  rw [Tryd.params14] at ht
  have hm : t ∈ [9] := by simpa using Array.mem_of_getElem? ht
  have hall : ([9].all fun u => !Tryd.prog.wantsStandIn u) = true := by kernel_rfl
  exact (show Tryd.prog.wantsStandIn t = false by simpa using List.all_eq_true.1 hall t hm)

/-- The statement. -/
theorem proved : Rows.FnExactReadObserverCardSaid :=
  Claim7.holds_tied_plain_at .later [] _ _ _ _ over (fun _ h => by cases h) (by kernel_rfl) (fun _ h => by cases h) fnExactReadObserver_row_tie rfl ⟨rfl, rfl⟩ (by kernel_rfl) rfl plain (by kernel_rfl)
#print axioms proved
end Go.Proofs.YtdplmbndafmlgaaDoor.fnExactReadObserver
