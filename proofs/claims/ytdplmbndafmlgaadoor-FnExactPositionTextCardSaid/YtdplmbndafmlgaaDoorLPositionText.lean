/-
  PROVES: the law 'FnExactPositionText' returns true for every input that can be read, and leaves its arguments as they were. It has no conditions.
-/
import Derived.Test.YtdplmbndafmlgaaDoorRows
import Derived.Test.YtdplmbndafmlgaaDoorPl
import Derived.Test.YtdplmbndafmlgaaDoorFr
import Derived.Test.YtdplmbndafmlgaaDoorTxtF
import Derived.Test.YtdplmbndafmlgaaDoorFrT
import Derived.Test.YtdplmbndafmlgaaDoorCards
import Derived.Test.YtdplmbndafmlgaaDoorTie
import Derived.LaidMore
import Derived.Lay
import Derived.SevenTiedAt
import Derived.Stop.Joined
import Derived.WalkKit
import Derived.ProofKit
import Derived.OpenShut
import Derived.ShutString
import Derived.ChangeOld
import Derived.Below
namespace Go.Proofs.YtdplmbndafmlgaaDoor.fnExactPositionText
open Go.ChangeShapes Go.WideShapes Go.ChangeAt Go.RowKit Pl
open Go.ChangeMaps (open_string shut_string)
set_option linter.unusedVariables false
set_option linter.unusedSimpArgs false

theorem own : ownKnob Tryd.prog.godebug = none := by kernel_rfl
theorem laidOut : laidOutB Tryd.prog = true := by kernel_rfl

theorem walk (a0_0 : ByteArray) (a0_1 : Int) (a0_2 : Int) (a0_3 : Int) (a0_4 : Int) (w : World) (w0_0 : okS a0_0) (w0_1 : okI a0_1) (w0_2 : okI a0_2) (w0_3 : okI a0_3) (w0_4 : okI a0_4) (T : Tab w) :
    Calls Tryd.prog 9 #[.agg #[.string a0_0, .int .i64 a0_1, .int .i64 a0_2, .int .i64 a0_3, .int .i64 a0_4]] w fun e w' => e = .returned (.bool true) ∧ Below w.heap.size w w' := by
  have HT := hide T
  clear T
  obtain ⟨w0, hw0⟩ : ∃ w0, w0 = w.alloc (.cells #[.string a0_0, .int .i64 a0_1, .int .i64 a0_2, .int .i64 a0_3, .int .i64 a0_4] 42) := ⟨_, rfl⟩
  have E0 := hide (show Below w.heap.size w w0 from hw0 ▸ (Below.refl _ _).alloc (Nat.le_refl _) _)
  have hz0 : w.heap.size < w0.heap.size := by rw [hw0]; simp
  have C0 := hide (show w0.cell? ⟨w.heap.size, 0, none⟩ = some (.string a0_0) from by rw [hw0]; simp [go_sem])
  have C1 := hide (show w0.cell? ⟨w.heap.size, 1, none⟩ = some (.int .i64 a0_1) from by rw [hw0]; simp [go_sem])
  have C2 := hide (show w0.cell? ⟨w.heap.size, 2, none⟩ = some (.int .i64 a0_2) from by rw [hw0]; simp [go_sem])
  have C3 := hide (show w0.cell? ⟨w.heap.size, 3, none⟩ = some (.int .i64 a0_3) from by rw [hw0]; simp [go_sem])
  have C4 := hide (show w0.cell? ⟨w.heap.size, 4, none⟩ = some (.int .i64 a0_4) from by rw [hw0]; simp [go_sem])
  have HW0 := hide hw0
  clear hw0
  have HB0 := hide (Below.refl w0.heap.size w0)
  have HT0 := hide (HT.out.below E0.out)
  go_enter Tryd.func9, Tryd.ntmps9
  go_wp2_with fail
  rw [← HW0.out]
  have x0 := (HB0.out.cell (p := ⟨w.heap.size, 0, none⟩) hz0).trans C0.out
  have x1 := (HB0.out.cell (p := ⟨w.heap.size, 1, none⟩) hz0).trans C1.out
  have x2 := (HB0.out.cell (p := ⟨w.heap.size, 2, none⟩) hz0).trans C2.out
  have x3 := (HB0.out.cell (p := ⟨w.heap.size, 3, none⟩) hz0).trans C3.out
  have x4 := (HB0.out.cell (p := ⟨w.heap.size, 4, none⟩) hz0).trans C4.out
  skip
  refine (szStar_len _ _ _ _ _ _ _ (by omega) (by omega) (by assumption)).mono ?_
  rintro e w1 ⟨r, rfl, hs, b⟩
  rcases hs with rfl | ⟨hs, ht⟩
  · go_wp2
    go_ret
    exact ⟨rfl, E0.out.trans ((HB0.out.trans (b.mono HB0.out.size)).mono E0.out.size)⟩
  have HB1 := hide (HB0.out.trans (b.mono HB0.out.size))
  clear b x0 x1 x2 x3 x4
  have x0 := (HB1.out.cell (p := ⟨w.heap.size, 0, none⟩) hz0).trans C0.out
  have x1 := (HB1.out.cell (p := ⟨w.heap.size, 1, none⟩) hz0).trans C1.out
  have x2 := (HB1.out.cell (p := ⟨w.heap.size, 2, none⟩) hz0).trans C2.out
  have x3 := (HB1.out.cell (p := ⟨w.heap.size, 3, none⟩) hz0).trans C3.out
  have x4 := (HB1.out.cell (p := ⟨w.heap.size, 4, none⟩) hz0).trans C4.out
  go_wp2_with fail
  refine (toStar_any _ _ _ _ _ _).mono ?_
  rintro e w2 ⟨rfl, b⟩
  have HB2 := hide (HB1.out.trans (b.mono HB1.out.size))
  clear b x0 x1 x2 x3 x4
  have x0 := (HB2.out.cell (p := ⟨w.heap.size, 0, none⟩) hz0).trans C0.out
  have x1 := (HB2.out.cell (p := ⟨w.heap.size, 1, none⟩) hz0).trans C1.out
  have x2 := (HB2.out.cell (p := ⟨w.heap.size, 2, none⟩) hz0).trans C2.out
  have x3 := (HB2.out.cell (p := ⟨w.heap.size, 3, none⟩) hz0).trans C3.out
  have x4 := (HB2.out.cell (p := ⟨w.heap.size, 4, none⟩) hz0).trans C4.out
  go_wp2_with fail
  refine (spec_PositionText_any _ _ _ _ _ (by unfold maxLen; omega) _).mono ?_
  rintro e w3 ⟨rfl, b⟩
  have HB3 := hide (HB2.out.trans (b.mono HB2.out.size))
  clear b x0 x1 x2 x3 x4
  have x0 := (HB3.out.cell (p := ⟨w.heap.size, 0, none⟩) hz0).trans C0.out
  have x1 := (HB3.out.cell (p := ⟨w.heap.size, 1, none⟩) hz0).trans C1.out
  have x2 := (HB3.out.cell (p := ⟨w.heap.size, 2, none⟩) hz0).trans C2.out
  have x3 := (HB3.out.cell (p := ⟨w.heap.size, 3, none⟩) hz0).trans C3.out
  have x4 := (HB3.out.cell (p := ⟨w.heap.size, 4, none⟩) hz0).trans C4.out
  go_wp2_with fail
  refine (toStar_any _ _ _ _ _ _).mono ?_
  rintro e w4 ⟨rfl, b⟩
  have HB4 := hide (HB3.out.trans (b.mono HB3.out.size))
  clear b x0 x1 x2 x3 x4
  have x0 := (HB4.out.cell (p := ⟨w.heap.size, 0, none⟩) hz0).trans C0.out
  have x1 := (HB4.out.cell (p := ⟨w.heap.size, 1, none⟩) hz0).trans C1.out
  have x2 := (HB4.out.cell (p := ⟨w.heap.size, 2, none⟩) hz0).trans C2.out
  have x3 := (HB4.out.cell (p := ⟨w.heap.size, 3, none⟩) hz0).trans C3.out
  have x4 := (HB4.out.cell (p := ⟨w.heap.size, 4, none⟩) hz0).trans C4.out
  go_wp2_with fail
  refine (impl_PositionText_any _ _ _ _ _ (by unfold maxLen; omega) _ (HT0.out.below HB4.out)).mono ?_
  rintro e w5 ⟨rfl, b⟩
  have HB5 := hide (HB4.out.trans (b.mono HB4.out.size))
  clear b x0 x1 x2 x3 x4
  go_wp2
  go_ret
  exact ⟨rfl, E0.out.trans (HB5.out.mono E0.out.size)⟩

theorem tabOf {W : World} (h : laidMetH Tryd.prog Rows.fnExactPositionTextRow.laid W) : Tab W := by
  rw [MakeChecks.laidMetH_plain _ _ _ (by kernel_rfl)] at h
  exact tab3 h

set_option maxRecDepth 100000 in
theorem lifted (os : Os) (started : os.Started) (H : Type) (enc : TypeId × Value → H) :
    ReturnsInHanded {} Tryd.checked os 9 .any (fun w args => (Rows.fnExactPositionTextSpec.pre enc Tryd.prog Tryd.f9 Rows.fnExactPositionTextRow.domain false w args ∧ laidMetH Tryd.prog Rows.fnExactPositionTextRow.laid w) ∧ sizedMet enc Tryd.prog Tryd.f9 (OpenSpec.ofChange Rows.fnExactPositionTextSpec) false w args) (Rows.fnExactPositionTextSpec.post enc Tryd.prog Tryd.f9 false true false false) := by
  refine returnsInHanded_of_change_and (C := Tryd.checked) (X := fun w _ => laidMetH Tryd.prog Rows.fnExactPositionTextRow.laid w) (fun _ _ _ hh h => h.of_heap hh) own started (by kernel_rfl) Tryd.func9
    (ChangeSpec.witness_shaped (enc := enc) (C := Tryd.checked) (os := os) (X := fun w _ => laidMetH Tryd.prog Rows.fnExactPositionTextRow.laid w) false (World.laidAll Tryd.prog os Rows.fnExactPositionTextRow.laid) #[.agg #[.string ⟨#[]⟩, .int .i64 0, .int .i64 0, .int .i64 0, .int .i64 0]] 8 (World.laidAll_os _ _ _)
      (World.shaped_of_ZipB (by kernel_rfl) (by kernel_rfl)) (by kernel_rfl) (by kernel_rfl) (by kernel_rfl)
      (by rw [MakeChecks.laidMetH_plain _ _ _ (by kernel_rfl)]; exact laidMet_laidAll _ (by kernel_rfl) (by kernel_rfl))) ?_
  intro W base args ds gs before hval0 hW hcnd _ hL _
  have hval : ∀ (j : Nat) t v, Tryd.f9.params[j]? = some t → args[j]? = some v → Value.okWide Tryd.prog W .any base t v := hval0
  have hW' := hW
  obtain ⟨p, q, hA0, hV, rfl, hfz, hnd⟩ := hW
  have hA : DataW.TrodAll enc Tryd.prog W 0 (fun _ => true) true Tryd.f9.params.toList args.toList ds p := hA0
  rw [Tryd.params9] at hA hval
  obtain ⟨v0, vs0, d0, ds0, p0, q0, hargs, rfl, rfl, h0, r0⟩ := trodAll_cons hA
  obtain ⟨rfl, rfl, rfl⟩ := trodAll_nil r0
  obtain rfl : args = #[v0] := by cases args; simp_all
  obtain ⟨rfl, rfl⟩ := trodVars_none hV
  clear hA0 hval0 hnd hfz
  have k0 := h0
  have lt0 : ∀ x ∈ p0, x.block < W.heap.size := by obtain ⟨m, hm⟩ := k0; exact DataW.trod_lt m _ _ _ hm
  obtain ⟨q, rfl, hq, kk, hf⟩ := record_of Tryd.underlying42 (by kernel_rfl) (by kernel_rfl) (hval 0 42 v0 rfl rfl) h0
  obtain ⟨u0, u1, u2, u3, u4, rfl⟩ := len5 hq
  obtain ⟨u, y, e0, t0⟩ := hf 0 _ rfl
  simp at e0
  subst e0
  obtain ⟨a0_0, e1, _, w0_0⟩ := DataW.trod_string Tryd.underlying9 t0
  simp at e1
  subst e1
  obtain ⟨u, y, e0, t0⟩ := hf 1 _ rfl
  simp at e0
  subst e0
  obtain ⟨a0_1, e1, _, w0_1⟩ := DataW.trod_int Tryd.underlying2 t0
  simp at e1
  subst e1
  obtain ⟨u, y, e0, t0⟩ := hf 2 _ rfl
  simp at e0
  subst e0
  obtain ⟨a0_2, e1, _, w0_2⟩ := DataW.trod_int Tryd.underlying2 t0
  simp at e1
  subst e1
  obtain ⟨u, y, e0, t0⟩ := hf 3 _ rfl
  simp at e0
  subst e0
  obtain ⟨a0_3, e1, _, w0_3⟩ := DataW.trod_int Tryd.underlying2 t0
  simp at e1
  subst e1
  obtain ⟨u, y, e0, t0⟩ := hf 4 _ rfl
  simp at e0
  subst e0
  obtain ⟨a0_4, e1, _, w0_4⟩ := DataW.trod_int Tryd.underlying2 t0
  simp at e1
  subst e1
  clear hq hf
  refine (walk a0_0 a0_1 a0_2 a0_3 a0_4 W w0_0 w0_1 w0_2 w0_3 w0_4 (tabOf hL)).mono fun e W' ⟨he, bel⟩ => ?_
  subst he
  exact ⟨_, rfl, _, _, _, [], _, [], hW', trodAll_mk1 (shut_bool Tryd.underlying4 _), (trodAll_cons_mk (Below.trod laidOut (by kernel_rfl) (of_decide_eq_true (by kernel_rfl)) k0 bel lt0) trodAll_mk0), rfl, bel.frame _, fun h => by cases h⟩

theorem over : Rows.fnExactPositionTextRow.holds Tryd.pinned (OpenSpec.ofChange Rows.fnExactPositionTextSpec) :=
  OpenClaim.holds_of_wide 9 Tryd.f9 rfl rfl rfl rfl rfl rfl rfl ⟨rfl, rfl, rfl, rfl, rfl⟩ rfl rfl rfl rfl rfl (by kernel_rfl) Tryd.func9 (by kernel_rfl)
    (of_decide_eq_true (by kernel_rfl)) (by unfold Func.isWrapper; first | (rw [if_pos (by decide +kernel)]; kernel_rfl) | (rw [if_neg (by decide +kernel)]; exact ⟨rfl, rfl⟩))
    (fun os started H enc _ => lifted os started H enc)

theorem plain (f : FuncId) (fn : Func) (hf : Tryd.pinned.checked.prog.funcNamed Rows.fnExactPositionTextRow.func = some f) (hfn : Tryd.pinned.checked.prog.funcs[f]? = some fn) :
    true = Tryd.pinned.checked.prog.looks [] ∧ ∀ (j : Nat) t, fn.params[j]? = some t → Tryd.pinned.checked.prog.wantsStandIn t = false := by
  obtain rfl : f = 9 := Option.some.inj ((show Tryd.prog.funcNamed Rows.fnExactPositionTextRow.func = some 9 by kernel_rfl).symm.trans hf) |>.symm
  obtain rfl : fn = Tryd.f9 := (Option.some.inj (Tryd.func9.symm.trans hfn)).symm
  refine ⟨by kernel_rfl, fun j t ht => ?_⟩
  rw [Tryd.params9] at ht
  have hm : t ∈ [42] := by simpa using Array.mem_of_getElem? ht
  have hall : ([42].all fun u => !Tryd.prog.wantsStandIn u) = true := by kernel_rfl
  exact (show Tryd.prog.wantsStandIn t = false by simpa using List.all_eq_true.1 hall t hm)

/-- The statement. -/
theorem proved : Rows.FnExactPositionTextCardSaid :=
  Claim7.holds_tied_plain_at .later [] _ _ _ _ over (fun _ h => by cases h) (by kernel_rfl) (fun _ h => by cases h) fnExactPositionText_row_tie rfl ⟨rfl, rfl⟩ (by kernel_rfl) rfl plain (by kernel_rfl)
#print axioms proved
end Go.Proofs.YtdplmbndafmlgaaDoor.fnExactPositionText
