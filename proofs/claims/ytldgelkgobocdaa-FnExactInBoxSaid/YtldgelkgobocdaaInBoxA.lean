/-
  Contracts: the stars that lie in a box.
-/
import Derived.Test.YtldgelkgobocdaaFilt
import Derived.Test.YtldgelkgobocdaaValS
import Derived.Test.YtldgelkgobocdaaNum
import Derived.Test.YtldgelkgobocdaaKp
import Derived.Deep.QuietTactic
import Derived.BigQuiet
import Derived.OwnWalk
import Derived.Laws.AppendOwn
import Derived.Outline
namespace Go.Proofs.Ytldgelkgobocdaa
open Go.RowKit Pl
set_option linter.unusedVariables false
set_option linter.unusedSimpArgs false
def boxB (b0 b1 b2 b3 : Int) : Bool := inB b0 0 86399 && (inB b1 0 86399 && (decide (-324000 ≤ b2) && (decide (b2 ≤ b3) && decide (b3 ≤ 324000))))
theorem inB_def (n lo hi : Int) : inB n lo hi = decide (lo ≤ n ∧ n ≤ hi) := by
  cases h : inB n lo hi
  · symm; rw [decide_eq_false_iff_not]; intro k; have := inB_mk k.1 k.2; rw [h] at this; cases this
  · symm; rw [decide_eq_true_eq]; exact inB_true h
theorem boxB_alt (b0 b1 b2 b3 : Int) : boxB b0 b1 b2 b3 = (inB b0 0 86399 && (inB b1 0 86399 && (inB b2 (-324000) 324000 && (inB b3 (-324000) 324000 && decide (b2 ≤ b3))))) := by
  unfold boxB
  congr 1
  congr 1
  rw [inB_def, inB_def, Bool.eq_iff_iff]
  simp only [Bool.and_eq_true, decide_eq_true_eq]
  omega
def hasB (b0 b1 b2 b3 a d : Int) : Bool := (if b0 ≤ b1 then inB a b0 b1 else (decide (b0 ≤ a) || decide (a ≤ b1))) && inB d b2 b3
set_option maxHeartbeats 1000000 in
theorem impl_isBox_any (b0 b1 b2 b3 : Int) (w : World) : Calls Try.prog 94 #[.agg #[.int .i64 b0, .int .i64 b1, .int .i64 b2, .int .i64 b3]] w fun e w' => e = .returned (.bool (boxB b0 b1 b2 b3)) ∧ Below w.heap.size w w' := by
  cases h1 : inB b0 0 86399
  · go_enter Try.func94, Try.ntmps94
    go_wp2_with (go_at_call 80; refine (in_any _ _ _ _).mono ?_; rintro e w' ⟨rfl, rfl⟩)
    all_goals go_ret
    all_goals exact ⟨ret_bool (by first | (simp [boxB, *]; done) | (simp [boxB, *]; omega)), (by repeat (first | exact Below.refl _ _ | assumption | refine Below.drew ?_ | refine below_drewN ?_ _ | refine Below.alloc ?_ (by first | omega | (simp; done) | (simp; omega)) _ | refine Below.setCell ?_ (by first | omega | (simp; done) | (simp; omega)) _ | refine Below.trans ?_ (Below.mono (by assumption) (by first | omega | (simp; done) | (simp; omega)))))⟩
  cases h2 : inB b1 0 86399
  · go_enter Try.func94, Try.ntmps94
    go_wp2_with (go_at_call 80; refine (in_any _ _ _ _).mono ?_; rintro e w' ⟨rfl, rfl⟩)
    all_goals go_ret
    all_goals exact ⟨ret_bool (by first | (simp [boxB, *]; done) | (simp [boxB, *]; omega)), (by repeat (first | exact Below.refl _ _ | assumption | refine Below.drew ?_ | refine below_drewN ?_ _ | refine Below.alloc ?_ (by first | omega | (simp; done) | (simp; omega)) _ | refine Below.setCell ?_ (by first | omega | (simp; done) | (simp; omega)) _ | refine Below.trans ?_ (Below.mono (by assumption) (by first | omega | (simp; done) | (simp; omega)))))⟩
  by_cases h3 : -324000 ≤ b2
  · by_cases h4 : b2 ≤ b3
    · go_enter Try.func94, Try.ntmps94
      go_wp2_with (go_at_call 80; refine (in_any _ _ _ _).mono ?_; rintro e w' ⟨rfl, rfl⟩)
      all_goals go_ret
      all_goals exact ⟨ret_bool (by first | (simp [boxB, *]; done) | (simp [boxB, *]; omega)), (by repeat (first | exact Below.refl _ _ | assumption | refine Below.drew ?_ | refine below_drewN ?_ _ | refine Below.alloc ?_ (by first | omega | (simp; done) | (simp; omega)) _ | refine Below.setCell ?_ (by first | omega | (simp; done) | (simp; omega)) _ | refine Below.trans ?_ (Below.mono (by assumption) (by first | omega | (simp; done) | (simp; omega)))))⟩
    · go_enter Try.func94, Try.ntmps94
      go_wp2_with (go_at_call 80; refine (in_any _ _ _ _).mono ?_; rintro e w' ⟨rfl, rfl⟩)
      all_goals go_ret
      all_goals exact ⟨ret_bool (by first | (simp [boxB, *]; done) | (simp [boxB, *]; omega)), (by repeat (first | exact Below.refl _ _ | assumption | refine Below.drew ?_ | refine below_drewN ?_ _ | refine Below.alloc ?_ (by first | omega | (simp; done) | (simp; omega)) _ | refine Below.setCell ?_ (by first | omega | (simp; done) | (simp; omega)) _ | refine Below.trans ?_ (Below.mono (by assumption) (by first | omega | (simp; done) | (simp; omega)))))⟩
  · go_enter Try.func94, Try.ntmps94
    go_wp2_with (go_at_call 80; refine (in_any _ _ _ _).mono ?_; rintro e w' ⟨rfl, rfl⟩)
    all_goals go_ret
    all_goals exact ⟨ret_bool (by first | (simp [boxB, *]; done) | (simp [boxB, *]; omega)), (by repeat (first | exact Below.refl _ _ | assumption | refine Below.drew ?_ | refine below_drewN ?_ _ | refine Below.alloc ?_ (by first | omega | (simp; done) | (simp; omega)) _ | refine Below.setCell ?_ (by first | omega | (simp; done) | (simp; omega)) _ | refine Below.trans ?_ (Below.mono (by assumption) (by first | omega | (simp; done) | (simp; omega)))))⟩
set_option maxHeartbeats 2000000 in
set_option maxRecDepth 100000 in
theorem spec_l04Box_any (b0 b1 b2 b3 : Int) (g : Nat) (w : World) (k0 : w.cell? ⟨g, 0, none⟩ = some (.int .i64 b0)) (k1 : w.cell? ⟨g, 1, none⟩ = some (.int .i64 b1)) (k2 : w.cell? ⟨g, 2, none⟩ = some (.int .i64 b2)) (k3 : w.cell? ⟨g, 3, none⟩ = some (.int .i64 b3)) : Calls Try.prog 92 #[.pointer (some ⟨g, 0, none⟩)] w fun e w' => e = .returned (.bool (boxB b0 b1 b2 b3)) ∧ Below w.heap.size w w' := by
  rw [boxB_alt]
  cases e1 : inB b0 0 86399 <;> cases e2 : inB b1 0 86399 <;> cases e3 : inB b2 (-324000) 324000 <;> cases e4 : inB b3 (-324000) 324000
  all_goals
    have h1 := hide e1
    have h2 := hide e2
    have h3 := hide e3
    have h4 := hide e4
    clear e1 e2 e3 e4
    go_enter Try.func92, Try.ntmps92
    go_wp2_with fail
    go_quiet (first | (go_at_call 128; with_reducible first | exact qb h1.out (spec_l04Ascend_any _ _) | exact qb2 h1.out (spec_l04Ascend_any _ _) | exact qb h2.out (spec_l04Ascend_any _ _) | exact qb2 h2.out (spec_l04Ascend_any _ _)) | (go_at_call 129; with_reducible first | exact qb h3.out (spec_l04Decl_any _ _) | exact qb2 h3.out (spec_l04Decl_any _ _) | exact qb h4.out (spec_l04Decl_any _ _) | exact qb2 h4.out (spec_l04Decl_any _ _)))
    go_wp2
    go_ret
    exact ⟨ret_bool (by simp), (by repeat (first | exact Below.refl _ _ | assumption | refine Below.drew ?_ | refine below_drewN ?_ _ | refine Below.alloc ?_ (by first | omega | (simp; done) | (simp; omega)) _ | refine Below.setCell ?_ (by first | omega | (simp; done) | (simp; omega)) _ | refine Below.trans ?_ (Below.mono (by assumption) (by first | omega | (simp; done) | (simp; omega)))))⟩
set_option maxHeartbeats 1000000 in
theorem has_any (b0 b1 b2 b3 a d br fa : Int) (nm : ByteArray) (w : World) : Calls Try.prog 96 #[.agg #[.int .i64 b0, .int .i64 b1, .int .i64 b2, .int .i64 b3], .agg #[.string nm, .int .i64 a, .int .i64 d, .int .i64 br, .int .i64 fa]] w fun e w' => e = .returned (.bool (hasB b0 b1 b2 b3 a d)) ∧ Below w.heap.size w w' := by
  by_cases h1 : b1 < b0
  · have h1' : ¬ b0 ≤ b1 := by omega
    by_cases h2 : b0 ≤ a
    · cases h4 : inB d b2 b3
      all_goals
        go_enter Try.func96, Try.ntmps96
        go_wp2_with (go_at_call 80; refine (in_any _ _ _ _).mono ?_; rintro e w' ⟨rfl, rfl⟩)
        all_goals go_ret
        all_goals exact ⟨ret_bool (by first | (simp [hasB, *]; done) | (simp [hasB, *]; intro h; omega)), (by repeat (first | exact Below.refl _ _ | assumption | refine Below.drew ?_ | refine below_drewN ?_ _ | refine Below.alloc ?_ (by first | omega | (simp; done) | (simp; omega)) _ | refine Below.setCell ?_ (by first | omega | (simp; done) | (simp; omega)) _ | refine Below.trans ?_ (Below.mono (by assumption) (by first | omega | (simp; done) | (simp; omega)))))⟩
    · by_cases h3 : a ≤ b1
      · cases h4 : inB d b2 b3
        all_goals
          go_enter Try.func96, Try.ntmps96
          go_wp2_with (go_at_call 80; refine (in_any _ _ _ _).mono ?_; rintro e w' ⟨rfl, rfl⟩)
          all_goals go_ret
          all_goals exact ⟨ret_bool (by first | (simp [hasB, *]; done) | (simp [hasB, *]; intro h; omega)), (by repeat (first | exact Below.refl _ _ | assumption | refine Below.drew ?_ | refine below_drewN ?_ _ | refine Below.alloc ?_ (by first | omega | (simp; done) | (simp; omega)) _ | refine Below.setCell ?_ (by first | omega | (simp; done) | (simp; omega)) _ | refine Below.trans ?_ (Below.mono (by assumption) (by first | omega | (simp; done) | (simp; omega)))))⟩
      · go_enter Try.func96, Try.ntmps96
        go_wp2_with (go_at_call 80; refine (in_any _ _ _ _).mono ?_; rintro e w' ⟨rfl, rfl⟩)
        all_goals go_ret
        all_goals exact ⟨ret_bool (by first | (simp [hasB, *]; done) | (simp [hasB, *]; intro h; omega)), (by repeat (first | exact Below.refl _ _ | assumption | refine Below.drew ?_ | refine below_drewN ?_ _ | refine Below.alloc ?_ (by first | omega | (simp; done) | (simp; omega)) _ | refine Below.setCell ?_ (by first | omega | (simp; done) | (simp; omega)) _ | refine Below.trans ?_ (Below.mono (by assumption) (by first | omega | (simp; done) | (simp; omega)))))⟩
  · have h1' : b0 ≤ b1 := by omega
    cases h2 : inB a b0 b1
    · go_enter Try.func96, Try.ntmps96
      go_wp2_with (go_at_call 80; refine (in_any _ _ _ _).mono ?_; rintro e w' ⟨rfl, rfl⟩)
      all_goals go_ret
      all_goals exact ⟨ret_bool (by first | (simp [hasB, *]; done) | (simp [hasB, *]; intro h; omega)), (by repeat (first | exact Below.refl _ _ | assumption | refine Below.drew ?_ | refine below_drewN ?_ _ | refine Below.alloc ?_ (by first | omega | (simp; done) | (simp; omega)) _ | refine Below.setCell ?_ (by first | omega | (simp; done) | (simp; omega)) _ | refine Below.trans ?_ (Below.mono (by assumption) (by first | omega | (simp; done) | (simp; omega)))))⟩
    · cases h4 : inB d b2 b3
      all_goals
        go_enter Try.func96, Try.ntmps96
        go_wp2_with (go_at_call 80; refine (in_any _ _ _ _).mono ?_; rintro e w' ⟨rfl, rfl⟩)
        all_goals go_ret
        all_goals exact ⟨ret_bool (by first | (simp [hasB, *]; done) | (simp [hasB, *]; intro h; omega)), (by repeat (first | exact Below.refl _ _ | assumption | refine Below.drew ?_ | refine below_drewN ?_ _ | refine Below.alloc ?_ (by first | omega | (simp; done) | (simp; omega)) _ | refine Below.setCell ?_ (by first | omega | (simp; done) | (simp; omega)) _ | refine Below.trans ?_ (Below.mono (by assumption) (by first | omega | (simp; done) | (simp; omega)))))⟩
set_option maxHeartbeats 2000000 in
set_option maxRecDepth 100000 in
theorem l04In_any (b0 b1 b2 b3 a d : Int) (g gs os : Nat) (w : World) (k0 : w.cell? ⟨g, 0, none⟩ = some (.int .i64 b0)) (k1 : w.cell? ⟨g, 1, none⟩ = some (.int .i64 b1)) (k2 : w.cell? ⟨g, 2, none⟩ = some (.int .i64 b2)) (k3 : w.cell? ⟨g, 3, none⟩ = some (.int .i64 b3)) (s1 : w.cell? ⟨gs, os + 1, none⟩ = some (.int .i64 a)) (s2 : w.cell? ⟨gs, os + 2, none⟩ = some (.int .i64 d)) : Calls Try.prog 93 #[.pointer (some ⟨gs, os, none⟩), .pointer (some ⟨g, 0, none⟩)] w fun e w' => e = .returned (.bool (hasB b0 b1 b2 b3 a d)) ∧ Below w.heap.size w w' := by
  cases e1 : inB d b2 b3
  · rw [show hasB b0 b1 b2 b3 a d = false from by simp [hasB, e1]]
    have h1 := hide e1
    clear e1
    go_enter Try.func93, Try.ntmps93
    go_wp2_with fail
    go_quiet ((go_at_call 77; with_reducible first | exact qsame (l00In_bit h1.out _) | exact qadd (l00In_bit h1.out _)))
    go_wp2
    go_ret
    exact ⟨rfl, (by repeat (first | exact Below.refl _ _ | assumption | refine Below.drew ?_ | refine below_drewN ?_ _ | refine Below.alloc ?_ (by first | omega | (simp; done) | (simp; omega)) _ | refine Below.setCell ?_ (by first | omega | (simp; done) | (simp; omega)) _ | refine Below.trans ?_ (Below.mono (by assumption) (by first | omega | (simp; done) | (simp; omega)))))⟩
  have h1 := hide e1
  by_cases h2 : b0 ≤ b1
  · cases e2 : inB a b0 b1
    all_goals
      rw [show hasB b0 b1 b2 b3 a d = _ from by simp only [hasB, e1, if_pos h2, e2, Bool.and_true, Bool.true_and]; rfl]
      have h3 := hide e2
      clear e1 e2
      go_enter Try.func93, Try.ntmps93
      go_wp2_with fail
      go_quiet ((go_at_call 77; with_reducible first | exact qsame (l00In_bit h1.out _) | exact qadd (l00In_bit h1.out _)))
      go_wp2_with fail
      go_quiet (fail)
      go_wp2_with fail
      go_quiet ((go_at_call 77; with_reducible first | exact qsame (l00In_bit h3.out _) | exact qadd (l00In_bit h3.out _)))
      go_wp2
      go_ret
      exact ⟨rfl, (by repeat (first | exact Below.refl _ _ | assumption | refine Below.drew ?_ | refine below_drewN ?_ _ | refine Below.alloc ?_ (by first | omega | (simp; done) | (simp; omega)) _ | refine Below.setCell ?_ (by first | omega | (simp; done) | (simp; omega)) _ | refine Below.trans ?_ (Below.mono (by assumption) (by first | omega | (simp; done) | (simp; omega)))))⟩
  · cases e3 : decide (b0 ≤ a)
    all_goals
      rw [show hasB b0 b1 b2 b3 a d = _ from by simp only [hasB, e1, if_neg h2, e3, Bool.and_true, Bool.true_or, Bool.false_or]; rfl]
      have h3 := hide e3
      clear e1 e3
      go_enter Try.func93, Try.ntmps93
      go_wp2_with fail
      go_quiet ((go_at_call 77; with_reducible first | exact qsame (l00In_bit h1.out _) | exact qadd (l00In_bit h1.out _)))
      go_wp2_with fail
      go_quiet (fail)
      go_wp2_with fail
      have h4 := h3.out
      go_quiet (fail)
      go_wp2
      go_ret
      exact ⟨rfl, (by repeat (first | exact Below.refl _ _ | assumption | refine Below.drew ?_ | refine below_drewN ?_ _ | refine Below.alloc ?_ (by first | omega | (simp; done) | (simp; omega)) _ | refine Below.setCell ?_ (by first | omega | (simp; done) | (simp; omega)) _ | refine Below.trans ?_ (Below.mono (by assumption) (by first | omega | (simp; done) | (simp; omega)))))⟩
theorem inbox_end : True := trivial
end Go.Proofs.Ytldgelkgobocdaa
