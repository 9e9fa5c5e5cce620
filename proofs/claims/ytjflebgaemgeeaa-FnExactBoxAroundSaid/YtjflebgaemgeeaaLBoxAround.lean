/-
  PROVES: the law 'FnExactBoxAround' returns true for every input that can be read, and leaves its arguments as they were. It has no conditions.
-/
import Derived.Test.YtjflebgaemgeeaaRows
import Derived.Test.YtjflebgaemgeeaaPl
import Derived.Test.YtjflebgaemgeeaaFr
import Derived.Test.YtjflebgaemgeeaaBox
import Derived.WalkKit
import Derived.ProofKit
import Derived.OpenShut
import Derived.ShutString
import Derived.ChangeOld
import Derived.Below
namespace Go.Proofs.Ytjflebgaemgeeaa.fnExactBoxAround
open Go.ChangeShapes Go.WideShapes Go.ChangeAt Go.RowKit Pl
open Go.ChangeMaps (open_string shut_string)
set_option linter.unusedVariables false
set_option linter.unusedSimpArgs false

theorem own : ownKnob Try.prog.godebug = none := by kernel_rfl
theorem laidOut : laidOutB Try.prog = true := by kernel_rfl

theorem walk (a0_0 : ByteArray) (a0_1 : Int) (a0_2 : Int) (a0_3 : Int) (a0_4 : Int) (a1 : Int) (w : World) (w0_0 : okS a0_0) (w0_1 : okI a0_1) (w0_2 : okI a0_2) (w0_3 : okI a0_3) (w0_4 : okI a0_4) (w1 : okI a1) :
    Calls Try.prog 11 #[.agg #[.string a0_0, .int .i64 a0_1, .int .i64 a0_2, .int .i64 a0_3, .int .i64 a0_4], .int .i64 a1] w fun e w' => e = .returned (.bool true) ∧ Below w.heap.size w w' := by
  obtain ⟨v1, v2, v3, v4, c, hv⟩ := box_vals a0_0 a0_1 a0_2 a0_3 a0_4 a1
  exact box_walk a0_0 a0_1 a0_2 a0_3 a0_4 a1 v1 v2 v3 v4 c hv w w0_0

set_option maxRecDepth 100000 in
theorem lifted (os : Os) (started : os.Started) (H : Type) (enc : TypeId × Value → H) :
    ReturnsInHanded {} Try.checked os 11 .any (Rows.fnExactBoxAroundSpec.pre6 enc Try.prog Try.f11 Rows.fnExactBoxAroundRow.domain false) (Rows.fnExactBoxAroundSpec.post enc Try.prog Try.f11 false true false false) := by
  refine returnsInHanded_of_change (C := Try.checked) own started (by kernel_rfl) Try.func11
    (ChangeSpec.witness6 (enc := enc) (C := Try.checked) false ⟨#[], #[.agg #[.string ⟨#[]⟩, .int .i64 0, .int .i64 0, .int .i64 0, .int .i64 0], .int .i64 0], []⟩ 8 (by kernel_rfl) (by kernel_rfl) (by kernel_rfl) (by kernel_rfl)) ?_
  intro W base args ds gs before hval0 hW hcnd _
  have hval : ∀ (j : Nat) t v, Try.f11.params[j]? = some t → args[j]? = some v → Value.okWide Try.prog W .any base t v := hval0
  have hW' := hW
  obtain ⟨p, q, hA0, hV, rfl, hfz, hnd⟩ := hW
  have hA : DataW.TrodAll enc Try.prog W 0 (fun _ => true) true Try.f11.params.toList args.toList ds p := hA0
  rw [Try.params11] at hA hval
  obtain ⟨v0, vs0, d0, ds0, p0, q0, hargs, rfl, rfl, h0, r0⟩ := trodAll_cons hA
  obtain ⟨v1, vs1, d1, ds1, p1, q1, rfl, rfl, rfl, h1, r1⟩ := trodAll_cons r0
  obtain ⟨rfl, rfl, rfl⟩ := trodAll_nil r1
  obtain rfl : args = #[v0, v1] := by cases args; simp_all
  obtain ⟨rfl, rfl⟩ := trodVars_none hV
  clear hA0 hval0 hnd hfz
  have k0 := h0
  have lt0 : ∀ x ∈ p0, x.block < W.heap.size := by obtain ⟨m, hm⟩ := k0; exact DataW.trod_lt m _ _ _ hm
  have k1 := h1
  have lt1 : ∀ x ∈ p1, x.block < W.heap.size := by obtain ⟨m, hm⟩ := k1; exact DataW.trod_lt m _ _ _ hm
  obtain ⟨q, rfl, hq, kk, hf⟩ := record_of Try.underlying60 (by kernel_rfl) (by kernel_rfl) (hval 0 60 v0 rfl rfl) h0
  obtain ⟨u0, u1, u2, u3, u4, rfl⟩ := len5 hq
  obtain ⟨u, y, e0, t0⟩ := hf 0 _ rfl
  simp at e0
  subst e0
  obtain ⟨a0_0, e1, _, w0_0⟩ := DataW.trod_string Try.underlying9 t0
  simp at e1
  subst e1
  obtain ⟨u, y, e0, t0⟩ := hf 1 _ rfl
  simp at e0
  subst e0
  obtain ⟨a0_1, e1, _, w0_1⟩ := DataW.trod_int Try.underlying2 t0
  simp at e1
  subst e1
  obtain ⟨u, y, e0, t0⟩ := hf 2 _ rfl
  simp at e0
  subst e0
  obtain ⟨a0_2, e1, _, w0_2⟩ := DataW.trod_int Try.underlying2 t0
  simp at e1
  subst e1
  obtain ⟨u, y, e0, t0⟩ := hf 3 _ rfl
  simp at e0
  subst e0
  obtain ⟨a0_3, e1, _, w0_3⟩ := DataW.trod_int Try.underlying2 t0
  simp at e1
  subst e1
  obtain ⟨u, y, e0, t0⟩ := hf 4 _ rfl
  simp at e0
  subst e0
  obtain ⟨a0_4, e1, _, w0_4⟩ := DataW.trod_int Try.underlying2 t0
  simp at e1
  subst e1
  clear hq hf
  obtain ⟨a1, rfl, rfl, rfl, w1⟩ := open_int Try.underlying2 (hval 1 2 v1 rfl rfl) h1
  refine (walk a0_0 a0_1 a0_2 a0_3 a0_4 a1 W w0_0 w0_1 w0_2 w0_3 w0_4 w1).mono fun e W' ⟨he, bel⟩ => ?_
  subst he
  exact ⟨_, rfl, _, _, _, [], _, [], hW', trodAll_mk1 (shut_bool Try.underlying4 _), (trodAll_cons_mk (Below.trod laidOut (by kernel_rfl) (of_decide_eq_true (by kernel_rfl)) k0 bel lt0) (trodAll_cons_mk (Below.trod laidOut (by kernel_rfl) (of_decide_eq_true (by kernel_rfl)) k1 bel lt1) trodAll_mk0)), rfl, bel.frame _, fun h => by cases h⟩

theorem over : Rows.fnExactBoxAroundRow.holds Try.pinned (OpenSpec.ofChange Rows.fnExactBoxAroundSpec) :=
  OpenClaim.holds_of_wide 11 Try.f11 rfl rfl rfl rfl rfl rfl rfl ⟨rfl, rfl, rfl, rfl, rfl⟩ rfl rfl rfl rfl rfl (by kernel_rfl) Try.func11 (by kernel_rfl)
    (of_decide_eq_true (by kernel_rfl)) (by unfold Func.isWrapper; first | (rw [if_pos (by decide +kernel)]; kernel_rfl) | (rw [if_neg (by decide +kernel)]; exact ⟨rfl, rfl⟩))
    (fun os started H enc _ => lifted os started H enc)

/-- The statement. -/
theorem proved : Rows.FnExactBoxAroundSaid := over
#print axioms proved
end Go.Proofs.Ytjflebgaemgeeaa.fnExactBoxAround
