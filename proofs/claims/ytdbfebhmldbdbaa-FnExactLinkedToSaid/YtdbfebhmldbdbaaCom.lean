/-
  Contracts of the tests on lists of common estimates.
-/
import Derived.Test.YtdbfebhmldbdbaaNum
import Derived.Test.YtdbfebhmldbdbaaTy
import Derived.Test.YtdbfebhmldbdbaaMem2
import Derived.Test.YtdbfebhmldbdbaaPlB
import Derived.Outline
namespace Go.Proofs.Ytdbfebhmldbdbaa
open Go.RowKit Pl
set_option linter.unusedVariables false
set_option linter.unusedSimpArgs false
def comB (n a b d : Int) : Bool := inB a 0 (n - 1) && inB b 0 (n - 1) && !decide (a = b) && inB d (-2000) 2000
def comOk (n : Int) (x : ComT) : Bool := comB n x.a x.b x.diff
def comsB (n : Int) (l : List ComT) : Bool := inB n 1 40 && validB (comOk n) (fun _ _ => true) 60 l
theorem com_step {n : Int} {l : List ComT} {k : Nat} (hk : k < l.length) (h : comB n l[k].a l[k].b l[k].diff = true) : stepOk (comOk n) (fun _ _ => true) l k = true := by
  have h' : comOk n l[k] = true := h
  cases k with
  | zero => rw [step_zero hk, h']
  | succ j => rw [step_succ hk, h']; rfl
theorem com_bad {n : Int} {l : List ComT} {k : Nat} (hk : k < l.length) (h : comB n l[k].a l[k].b l[k].diff = false) : comsB n l = false := by
  have h' : comOk n l[k] = false := h
  unfold comsB
  rw [valid_bad hk (step_bad hk h'), Bool.and_false]
theorem coms_true {n : Int} {l : List ComT} (h : comsB n l = true) : 1 ≤ n ∧ n ≤ 40 ∧ l.length ≤ 60 ∧ ∀ i (hi : i < l.length), 0 ≤ l[i].a ∧ l[i].a < n ∧ 0 ≤ l[i].b ∧ l[i].b < n ∧ l[i].a ≠ l[i].b ∧ -2000 ≤ l[i].diff ∧ l[i].diff ≤ 2000 := by
  unfold comsB at h
  rw [Bool.and_eq_true] at h
  have h1 := inB_true h.1
  obtain ⟨h2, h3⟩ := valid_all h.2
  refine ⟨h1.1, h1.2, h2, fun i hi => ?_⟩
  have h4 := h3 i hi
  simp only [comOk, comB, Bool.and_eq_true] at h4
  obtain ⟨⟨⟨a, b⟩, c⟩, d⟩ := h4
  have a' := inB_true a
  have b' := inB_true b
  have d' := inB_true d
  have c' : ¬ l[i].a = l[i].b := by simpa using c
  exact ⟨by omega, by omega, by omega, by omega, c', by omega, by omega⟩
set_option maxHeartbeats 4000000 in
theorem impl_ValidCommons_any (A : Option Addr) (c : Nat) (n : Int) (l : List ComT) (w : World) (hl : l.length ≤ 1048576) (hr : Rd w w.heap.size 3 A l.length (l.flatMap ComT.cells)) :
    Calls Try.prog 31 #[.int .i64 n, .slice A l.length c] w fun e w' => e = .returned (.bool (comsB n l)) ∧ Below w.heap.size w w' := by
  have HR := hide hr
  clear hr
  cases h1 : inB n 1 40
  · go_enter Try.func31, Try.ntmps31
    go_wp2_with (go_at_call 32; refine (in_any _ _ _ _).mono ?_; rintro e w' ⟨rfl, rfl⟩)
    go_ret
    exact ⟨ret_bool (by simp [comsB, h1]), (by repeat (first | exact Below.refl _ _ | assumption | refine Below.drew ?_ | refine below_drewN ?_ _ | refine Below.alloc ?_ (by first | omega | (simp; done) | (simp; omega)) _ | refine Below.setCell ?_ (by first | omega | (simp; done) | (simp; omega)) _ | refine Below.trans ?_ (Below.mono (by assumption) (by first | omega | (simp; done) | (simp; omega)))))⟩
  by_cases h2 : 60 < l.length
  · go_enter Try.func31, Try.ntmps31
    go_wp2_with (go_at_call 32; refine (in_any _ _ _ _).mono ?_; rintro e w' ⟨rfl, rfl⟩)
    go_ret
    exact ⟨ret_bool (by simp [comsB, valid_long h2]), (by repeat (first | exact Below.refl _ _ | assumption | refine Below.drew ?_ | refine below_drewN ?_ _ | refine Below.alloc ?_ (by first | omega | (simp; done) | (simp; omega)) _ | refine Below.setCell ?_ (by first | omega | (simp; done) | (simp; omega)) _ | refine Below.trans ?_ (Below.mono (by assumption) (by first | omega | (simp; done) | (simp; omega)))))⟩
  obtain ⟨n1, n2⟩ := inB_true h1
  go_enter Try.func31, Try.ntmps31
  go_wp2_with (go_at_call 32; refine (in_any _ _ _ _).mono ?_; rintro e w' ⟨rfl, rfl⟩)
  go_loopw [17] (fun i wr => ∃ k : Nat, k ≤ l.length ∧ i = .int .i64 k ∧ Below w.heap.size w wr ∧ Hid (∀ j, j < k → stepOk (comOk n) (fun _ _ => true) l j = true)) (fun i _ => l.length - (intOf i).toNat)
  case atStart => exact ⟨0, by omega, rfl, (by repeat (first | exact Below.refl _ _ | assumption | refine Below.drew ?_ | refine below_drewN ?_ _ | refine Below.alloc ?_ (by first | omega | (simp; done) | (simp; omega)) _ | refine Below.setCell ?_ (by first | omega | (simp; done) | (simp; omega)) _ | refine Below.trans ?_ (Below.mono (by assumption) (by first | omega | (simp; done) | (simp; omega))))), fun j hj => absurd hj (by omega)⟩
  case round =>
    obtain ⟨k, hk, rfl, hb, hs⟩ := hrel
    have HB := hide hb
    by_cases hlt : k < l.length
    · obtain ⟨g, off, rfl, hg, hc⟩ := HR.out.elem ComT.cells_len hlt
      have f0 : wr.cell? ⟨g, off + k * 3, none⟩ = some (.int .i64 l[k].a) := (hb.cell (p := ⟨g, off + k * 3, none⟩) hg).trans (hc 0 _ rfl)
      have f1 : wr.cell? ⟨g, off + k * 3 + 1, none⟩ = some (.int .i64 l[k].b) := (hb.cell (p := ⟨g, off + k * 3 + 1, none⟩) hg).trans (hc 1 _ rfl)
      have f2 : wr.cell? ⟨g, off + k * 3 + 2, none⟩ = some (.int .i64 l[k].diff) := (hb.cell (p := ⟨g, off + k * 3 + 2, none⟩) hg).trans (hc 2 _ rfl)
      have hbad := hide (fun h => com_bad (n := n) hlt h)
      clear hc hb
      cases c1 : inB l[k].a 0 (n - 1)
      · go_wp2_with (go_at_call 32; refine (in_any _ _ _ _).mono ?_; rintro e w' ⟨rfl, rfl⟩)
        go_ret
        exact ⟨ret_bool (hbad.out (by simp [comB, c1])).symm, HB.out.trans ((Below.refl _ _).alloc HB.out.size _)⟩
      cases c2 : inB l[k].b 0 (n - 1)
      · go_wp2_with (go_at_call 32; refine (in_any _ _ _ _).mono ?_; rintro e w' ⟨rfl, rfl⟩)
        go_ret
        exact ⟨ret_bool (hbad.out (by simp [comB, c2])).symm, HB.out.trans ((Below.refl _ _).alloc HB.out.size _)⟩
      cases c3 : (l[k].a == l[k].b)
      · cases c4 : inB l[k].diff (-2000) 2000
        · go_wp2_with (go_at_call 32; refine (in_any _ _ _ _).mono ?_; rintro e w' ⟨rfl, rfl⟩)
          go_ret
          exact ⟨ret_bool (hbad.out (by simp [comB, c4])).symm, HB.out.trans ((Below.refl _ _).alloc HB.out.size _)⟩
        · have hgo := hide (com_step hlt (show comB n l[k].a l[k].b l[k].diff = true by
            have : ¬ l[k].a = l[k].b := by simpa using c3
            simp [comB, c1, c2, c4, this]))
          go_wp2_with (go_at_call 32; refine (in_any _ _ _ _).mono ?_; rintro e w' ⟨rfl, rfl⟩)
          go_roundw
          case rel => exact ⟨k + 1, by omega, by go_num, HB.out.trans ((Below.refl _ _).alloc HB.out.size _), steps_next hs.out hgo.out⟩
          case measure => simp [intOf]; omega
      · go_wp2_with (go_at_call 32; refine (in_any _ _ _ _).mono ?_; rintro e w' ⟨rfl, rfl⟩)
        go_ret
        exact ⟨ret_bool (hbad.out (by have : l[k].a = l[k].b := by simpa using c3
                                      simp [comB, this])).symm, HB.out.trans ((Below.refl _ _).alloc HB.out.size _)⟩
    · obtain rfl : k = l.length := by omega
      clear hb
      go_wp2
      go_ret
      refine ⟨ret_bool ?_, HB.out⟩
      unfold comsB
      rw [valid_good hs.out, h1]
      simp; omega
set_option maxHeartbeats 4000000 in
theorem l05Commons_any (A : Option Addr) (c : Nat) (n : Int) (l : List ComT) (w : World) (hl : l.length ≤ 1048576) (hr : Rd w w.heap.size 3 A l.length (l.flatMap ComT.cells)) :
    Calls Try.prog 27 #[.int .i64 n, .slice A l.length c] w fun e w' => e = .returned (.bool (comsB n l)) ∧ ∃ k, w' = w.drewN k := by
  have HR := hide hr
  clear hr
  cases h1 : inB n 1 40
  · go_enter Try.func27, Try.ntmps27
    go_wp2_with (go_at_call 28; refine (l00In_any _ _ _ _).mono ?_; rintro e w' ⟨rfl, rfl⟩)
    go_ret
    exact ⟨ret_bool (by simp [comsB, h1]), 0, rfl⟩
  obtain ⟨n1, n2⟩ := inB_true h1
  go_enter Try.func27, Try.ntmps27
  go_wp2_with (go_at_call 28; refine (l00In_any _ _ _ _).mono ?_; rintro e w' ⟨rfl, rfl⟩)
  go_loopw [5] (fun i wr => ∃ k : Nat, k ≤ l.length ∧ i = .int .i64 k ∧ (∃ q, wr = w.drewN q) ∧ Hid (∀ j, j < k → stepOk (comOk n) (fun _ _ => true) l j = true)) (fun i _ => l.length - (intOf i).toNat)
  case atStart => exact ⟨0, by omega, rfl, ⟨0, rfl⟩, fun j hj => absurd hj (by omega)⟩
  case round =>
    obtain ⟨k, hk, rfl, ⟨q, rfl⟩, hs⟩ := hrel
    by_cases hlt : k < l.length
    · obtain ⟨g, off, rfl, hg, hc⟩ := HR.out.elem ComT.cells_len hlt
      have f0 : w.cell? ⟨g, off + k * 3, none⟩ = some (.int .i64 l[k].a) := hc 0 _ rfl
      have f1 : w.cell? ⟨g, off + k * 3 + 1, none⟩ = some (.int .i64 l[k].b) := hc 1 _ rfl
      have f2 : w.cell? ⟨g, off + k * 3 + 2, none⟩ = some (.int .i64 l[k].diff) := hc 2 _ rfl
      have hbad := hide (fun h => com_bad (n := n) hlt h)
      have i1 : (0 : Int) ≤ (k : Int) := by omega
      have i2 : (k : Int) < (l.length : Int) := by omega
      clear hc
      cases c1 : inB l[k].a 0 (n - 1)
      · go_wp2_with fail
        go_quiet ((go_at_call 28; with_reducible first | exact qsame (l00In_bit c1 _) | exact qadd (l00In_bit c1 _)))
        go_wp2
        go_ret
        exact ⟨ret_bool (hbad.out (by simp [comB, c1])).symm, (by first | exact ⟨_, rfl⟩ | exact ⟨_, World.drewN_drewN _ _ _⟩)⟩
      cases c2 : inB l[k].b 0 (n - 1)
      · go_wp2_with fail
        go_quiet (first | (go_at_call 28; with_reducible first | exact qsame (l00In_bit c1 _) | exact qadd (l00In_bit c1 _)) | (go_at_call 28; with_reducible first | exact qsame (l00In_bit c2 _) | exact qadd (l00In_bit c2 _)))
        go_wp2
        go_ret
        exact ⟨ret_bool (hbad.out (by simp [comB, c2])).symm, (by first | exact ⟨_, rfl⟩ | exact ⟨_, World.drewN_drewN _ _ _⟩)⟩
      cases c3 : (l[k].a == l[k].b)
      · cases c4 : inB l[k].diff (-2000) 2000
        · go_wp2_with fail
          go_quiet (first | (go_at_call 28; with_reducible first | exact qsame (l00In_bit c1 _) | exact qadd (l00In_bit c1 _)) | (go_at_call 28; with_reducible first | exact qsame (l00In_bit c2 _) | exact qadd (l00In_bit c2 _)) | (go_at_call 28; with_reducible first | exact qsame (l00In_bit c4 _) | exact qadd (l00In_bit c4 _)))
          go_wp2
          go_ret
          exact ⟨ret_bool (hbad.out (by simp [comB, c4])).symm, (by first | exact ⟨_, rfl⟩ | exact ⟨_, World.drewN_drewN _ _ _⟩)⟩
        · have hgo := hide (com_step hlt (show comB n l[k].a l[k].b l[k].diff = true by
            have : ¬ l[k].a = l[k].b := by simpa using c3
            simp [comB, c1, c2, c4, this]))
          go_wp2_with fail
          go_quiet (first | (go_at_call 28; with_reducible first | exact qsame (l00In_bit c1 _) | exact qadd (l00In_bit c1 _)) | (go_at_call 28; with_reducible first | exact qsame (l00In_bit c2 _) | exact qadd (l00In_bit c2 _)) | (go_at_call 28; with_reducible first | exact qsame (l00In_bit c4 _) | exact qadd (l00In_bit c4 _)))
          go_wp2
          go_roundw
          case rel => exact ⟨k + 1, by omega, by go_num, (by first | exact ⟨_, rfl⟩ | exact ⟨_, World.drewN_drewN _ _ _⟩), steps_next hs.out hgo.out⟩
          case measure => simp [intOf]; omega
      · go_wp2_with fail
        go_quiet (first | (go_at_call 28; with_reducible first | exact qsame (l00In_bit c1 _) | exact qadd (l00In_bit c1 _)) | (go_at_call 28; with_reducible first | exact qsame (l00In_bit c2 _) | exact qadd (l00In_bit c2 _)))
        go_wp2
        go_ret
        exact ⟨ret_bool (hbad.out (by have : l[k].a = l[k].b := by simpa using c3
                                      simp [comB, this])).symm, (by first | exact ⟨_, rfl⟩ | exact ⟨_, World.drewN_drewN _ _ _⟩)⟩
    · obtain rfl : k = l.length := by omega
      by_cases h2 : 60 < l.length
      all_goals
        go_wp2
        go_ret
        refine ⟨ret_bool ?_, q, rfl⟩
        unfold comsB
        rw [valid_good hs.out, h1]
        simp; omega
theorem com_end : True := trivial
end Go.Proofs.Ytdbfebhmldbdbaa
