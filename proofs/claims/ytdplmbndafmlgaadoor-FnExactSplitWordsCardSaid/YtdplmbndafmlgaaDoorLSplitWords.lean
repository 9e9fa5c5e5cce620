/-
  PROVES: the law 'FnExactSplitWords' returns true for every input that can be read, and leaves its arguments as they were. It has no conditions.
-/
import Derived.Test.YtdplmbndafmlgaaDoorRows
import Derived.Test.YtdplmbndafmlgaaDoorPl
import Derived.Test.YtdplmbndafmlgaaDoorFr
import Derived.Test.YtdplmbndafmlgaaDoorSplM
import Derived.Test.YtdplmbndafmlgaaDoorFrT
import Derived.Test.YtdplmbndafmlgaaDoorFrX
import Derived.Test.YtdplmbndafmlgaaDoorCards
import Derived.Test.YtdplmbndafmlgaaDoorTie
import Derived.LaidMore
import Derived.Lay
import Derived.SevenTiedAt
import Derived.Stop.Joined
import Derived.WalkKit
import Derived.ProofKit
import Derived.OpenShut
import Derived.ShutString
import Derived.ChangeOld
import Derived.Below
namespace Go.Proofs.YtdplmbndafmlgaaDoor.fnExactSplitWords
open Go.ChangeShapes Go.WideShapes Go.ChangeAt Go.RowKit Pl
open Go.ChangeMaps (open_string shut_string)
set_option linter.unusedVariables false
set_option linter.unusedSimpArgs false

theorem own : ownKnob Tryd.prog.godebug = none := by kernel_rfl
theorem laidOut : laidOutB Tryd.prog = true := by kernel_rfl

theorem walk (a0 : ByteArray) (w : World) (w0 : okS a0) (X : Mx w) :
    Calls Tryd.prog 10 #[.string a0] w fun e w' => e = .returned (.bool true) ∧ Below w.heap.size w w' := by
  have HX := hide X
  clear X
  have T0 := hide (Below.refl w.heap.size w)
  by_cases hq : 1048576 < a0.size
  · unfold okS maxLen at w0
    go_enter Tryd.func10, Tryd.ntmps10
    go_wp2
    go_ret
    exact ⟨rfl, T0.out⟩
  obtain ⟨l, rfl⟩ : ∃ l : List UInt8, a0 = ⟨l.toArray⟩ := ⟨a0.data.toList, by cases a0; simp⟩
  have hl : l.length ≤ 1048576 := by
    have h : (⟨l.toArray⟩ : ByteArray).size = l.length := rfl
    omega
  clear hq w0
  have hres : (wds l).length ≤ 1048577 := Nat.le_trans (wds_len l) (by omega)
  go_enter Tryd.func10, Tryd.ntmps10
  go_wp2_with fail
  refine (spec_SplitWords_any l hl _).mono ?_
  rintro e w1 ⟨AW, cW, rfl, v, b⟩
  have W := hide v
  clear v
  have T1 := hide (T0.out.trans (b.mono T0.out.size))
  clear b
  have LW := hide T0.out.size
  go_wp2_with fail
  refine (impl_SplitWords_any l hl _ (HX.out.below T1.out)).mono ?_
  rintro e w2 ⟨AG, cG, rfl, v, b⟩
  have G := hide v
  have apWG := hide (W.out.apart G.out (Nat.le_refl _))
  clear v
  have T2 := hide (T1.out.trans (b.mono T1.out.size))
  have W_ := hide (W.out.below b)
  clear W
  have W := W_
  clear W_
  clear b
  have LG := hide T1.out.size
  go_wp2_with fail
  refine (eqStrs_same _ _ _ _ (wds l) _ hres G.out.rd W.out.rd).mono ?_
  rintro e w3 ⟨rfl, b⟩
  have T3 := hide (T2.out.trans (b.mono T2.out.size))
  have W_ := hide (W.out.below b)
  clear W
  have W := W_
  clear W_
  have G_ := hide (G.out.below b)
  clear G
  have G := G_
  clear G_
  clear b
  go_wp2_with fail
  refine (markStringS_any _ _ _ 1 _ _ _ (by omega) (by omega) (by omega) G.out).mono ?_
  rintro e w4 ⟨rfl, v, g⟩
  have T4 := hide (Below.only T3.out T3.out.size G.out g LG.out)
  have W_ := hide (W.out.far g apWG.out)
  clear W
  have W := W_
  clear W_
  clear G
  have G := hide v
  clear v g
  go_wp2_with fail
  refine (heldStringS_any _ _ 1 _ _ (by omega) (by omega) (by omega) G.out.rd).mono ?_
  rintro e w5 ⟨rfl, b⟩
  have T5 := hide (T4.out.trans (b.mono T4.out.size))
  have W_ := hide (W.out.below b)
  clear W
  have W := W_
  clear W_
  have G_ := hide (G.out.below b)
  clear G
  have G := G_
  clear G_
  clear b
  go_wp2_with fail
  refine (impl_SplitWords_any l hl _ (HX.out.below T5.out)).mono ?_
  rintro e w6 ⟨AH, cH, rfl, v, b⟩
  have H := hide v
  have apWH := hide (W.out.apart H.out (Nat.le_refl _))
  have apGH := hide (G.out.apart H.out (Nat.le_refl _))
  clear v
  have T6 := hide (T5.out.trans (b.mono T5.out.size))
  have W_ := hide (W.out.below b)
  clear W
  have W := W_
  clear W_
  have G_ := hide (G.out.below b)
  clear G
  have G := G_
  clear G_
  clear b
  have LH := hide T5.out.size
  go_wp2_with fail
  refine (eqStrs_same _ _ _ _ (wds l) _ hres H.out.rd W.out.rd).mono ?_
  rintro e w7 ⟨rfl, b⟩
  have T7 := hide (T6.out.trans (b.mono T6.out.size))
  have W_ := hide (W.out.below b)
  clear W
  have W := W_
  clear W_
  have G_ := hide (G.out.below b)
  clear G
  have G := G_
  clear G_
  have H_ := hide (H.out.below b)
  clear H
  have H := H_
  clear H_
  clear b
  go_wp2_with fail
  refine (heldStringS_any _ _ 1 _ _ (by omega) (by omega) (by omega) G.out.rd).mono ?_
  rintro e w8 ⟨rfl, b⟩
  have T8 := hide (T7.out.trans (b.mono T7.out.size))
  have W_ := hide (W.out.below b)
  clear W
  have W := W_
  clear W_
  have G_ := hide (G.out.below b)
  clear G
  have G := G_
  clear G_
  have H_ := hide (H.out.below b)
  clear H
  have H := H_
  clear H_
  clear b
  go_wp2
  go_ret
  exact ⟨rfl, T8.out⟩

set_option maxRecDepth 100000 in
theorem lifted (os : Os) (started : os.Started) (H : Type) (enc : TypeId × Value → H) :
    ReturnsInHanded {} Tryd.checked os 10 .any (fun w args => (Rows.fnExactSplitWordsSpec.pre enc Tryd.prog Tryd.f10 Rows.fnExactSplitWordsRow.domain false w args ∧ laidMetH Tryd.prog Rows.fnExactSplitWordsRow.laid w) ∧ sizedMet enc Tryd.prog Tryd.f10 (OpenSpec.ofChange Rows.fnExactSplitWordsSpec) false w args) (Rows.fnExactSplitWordsSpec.post enc Tryd.prog Tryd.f10 false true false false) := by
  refine handed_shaped (C := Tryd.checked) (X := fun w _ => laidMetH Tryd.prog Rows.fnExactSplitWordsRow.laid w) (fun _ _ _ hh h => h.of_heap hh) own started (by kernel_rfl) Tryd.func10
    (ChangeSpec.witness_shaped (enc := enc) (C := Tryd.checked) (os := os) (X := fun w _ => laidMetH Tryd.prog Rows.fnExactSplitWordsRow.laid w) false (World.laidAll Tryd.prog os Rows.fnExactSplitWordsRow.laid) #[.string ⟨#[]⟩] 8 (World.laidAll_os _ _ _)
      (World.shaped_of_ZipB (by kernel_rfl) (by kernel_rfl)) (by kernel_rfl) (by kernel_rfl) (by kernel_rfl)
      (by rw [MakeChecks.laidMetH_plain _ _ _ (by kernel_rfl)]; exact laidMet_laidAll _ (by kernel_rfl) (by kernel_rfl))) ?_
  intro W base args ds gs before hsh hval0 hW hL
  have hval : ∀ (j : Nat) t v, Tryd.f10.params[j]? = some t → args[j]? = some v → Value.okWide Tryd.prog W .any base t v := hval0
  have hW' := hW
  obtain ⟨p, q, hA0, hV, rfl, hfz, hnd⟩ := hW
  have hA : DataW.TrodAll enc Tryd.prog W 0 (fun _ => true) true Tryd.f10.params.toList args.toList ds p := hA0
  rw [Tryd.params10] at hA hval
  obtain ⟨v0, vs0, d0, ds0, p0, q0, hargs, rfl, rfl, h0, r0⟩ := trodAll_cons hA
  obtain ⟨rfl, rfl, rfl⟩ := trodAll_nil r0
  obtain rfl : args = #[v0] := by cases args; simp_all
  obtain ⟨rfl, rfl⟩ := trodVars_none hV
  clear hA0 hval0 hnd hfz
  have k0 := h0
  have lt0 : ∀ x ∈ p0, x.block < W.heap.size := by obtain ⟨m, hm⟩ := k0; exact DataW.trod_lt m _ _ _ hm
  obtain ⟨a0, rfl, rfl, rfl, w0⟩ := open_string Tryd.underlying9 (hval 0 9 v0 rfl rfl) h0
  refine (walk a0 W w0 (mxOf hsh)).mono fun e W' ⟨he, bel⟩ => ?_
  subst he
  exact ⟨_, rfl, _, _, _, [], _, [], hW', trodAll_mk1 (shut_bool Tryd.underlying4 _), (trodAll_cons_mk (Below.trod laidOut (by kernel_rfl) (of_decide_eq_true (by kernel_rfl)) k0 bel lt0) trodAll_mk0), rfl, bel.frame _, fun h => by cases h⟩

theorem over : Rows.fnExactSplitWordsRow.holds Tryd.pinned (OpenSpec.ofChange Rows.fnExactSplitWordsSpec) :=
  OpenClaim.holds_of_wide 10 Tryd.f10 rfl rfl rfl rfl rfl rfl rfl ⟨rfl, rfl, rfl, rfl, rfl⟩ rfl rfl rfl rfl rfl (by kernel_rfl) Tryd.func10 (by kernel_rfl)
    (of_decide_eq_true (by kernel_rfl)) (by unfold Func.isWrapper; first | (rw [if_pos (by decide +kernel)]; kernel_rfl) | (rw [if_neg (by decide +kernel)]; exact ⟨rfl, rfl⟩))
    (fun os started H enc _ => lifted os started H enc)

theorem plain (f : FuncId) (fn : Func) (hf : Tryd.pinned.checked.prog.funcNamed Rows.fnExactSplitWordsRow.func = some f) (hfn : Tryd.pinned.checked.prog.funcs[f]? = some fn) :
    true = Tryd.pinned.checked.prog.looks [] ∧ ∀ (j : Nat) t, fn.params[j]? = some t → Tryd.pinned.checked.prog.wantsStandIn t = false := by
  obtain rfl : f = 10 := Option.some.inj ((show Tryd.prog.funcNamed Rows.fnExactSplitWordsRow.func = some 10 by kernel_rfl).symm.trans hf) |>.symm
  obtain rfl : fn = Tryd.f10 := (Option.some.inj (Tryd.func10.symm.trans hfn)).symm
  refine ⟨by kernel_rfl, fun j t ht => ?_⟩
  rw [Tryd.params10] at ht
  have hm : t ∈ [9] := by simpa using Array.mem_of_getElem? ht
  have hall : ([9].all fun u => !Tryd.prog.wantsStandIn u) = true := by kernel_rfl
  exact (show Tryd.prog.wantsStandIn t = false by simpa using List.all_eq_true.1 hall t hm)

/-- The statement. -/
theorem proved : Rows.FnExactSplitWordsCardSaid :=
  Claim7.holds_tied_plain_at .later [] _ _ _ _ over (fun _ h => by cases h) (by kernel_rfl) (fun _ h => by cases h) fnExactSplitWords_row_tie rfl ⟨rfl, rfl⟩ (by kernel_rfl) rfl plain (by kernel_rfl)
#print axioms proved
end Go.Proofs.YtdplmbndafmlgaaDoor.fnExactSplitWords
