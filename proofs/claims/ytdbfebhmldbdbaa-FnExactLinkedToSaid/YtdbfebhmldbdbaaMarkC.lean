/-
  Contracts of the laws' helpers that write marks into a list of records and look for them.
-/
import Derived.Test.YtdbfebhmldbdbaaMarkT
import Derived.Test.YtdbfebhmldbdbaaRecC
import Derived.Outline
import Derived.Deep.RegionHeld3
namespace Go.Proofs.Ytdbfebhmldbdbaa
open Go.RowKit
set_option linter.unusedVariables false
set_option linter.unusedSimpArgs false
def markC (k n : Nat) : List ComT := (List.range n).map fun (i : Nat) => { a := (k : Int) + 3 * (i : Int), b := (k : Int) + 3 * (i : Int) + 1, diff := (k : Int) + 3 * (i : Int) + 1 + 1 }
theorem markC_len (k n : Nat) : (markC k n).length = n := by simp [markC]
theorem markC_at {k n i : Nat} (h : i < (markC k n).length) : (markC k n)[i] = { a := (k : Int) + 3 * (i : Int), b := (k : Int) + 3 * (i : Int) + 1, diff := (k : Int) + 3 * (i : Int) + 1 + 1 } := by simp [markC]
set_option maxHeartbeats 2000000 in
theorem markCommonS_any (A : Option Addr) (n c k lo : Nat) (xs : List Value) (w : World) (hn : n ≤ 1048577) (h0 : 0 < k) (hk : k ≤ 100000000) (h : Own w lo 45 3 A n c xs) :
    Calls Try.prog 18 #[.slice A n c, .int .i64 k] w fun e w' => e = .returned (.int .i64 ((k : Int) + 3 * (n : Int))) ∧ Own w' lo 45 3 A n c ((markC k n).flatMap ComT.cells) ∧ Only w w' A := by
  obtain ⟨h1, h2, h3, ⟨rfl, rfl, rfl⟩ | ⟨g, cur, rfl, hlo, hB, hs, ht⟩⟩ := h.parts
  · have hx : xs = [] := List.eq_nil_of_length_eq_zero (by simpa using h1)
    subst hx
    go_enter Try.func18, Try.ntmps18
    go_wp2_with fail
    go_loopw [1, 5] (fun t i wr => i = .int .i64 0 ∧ t = .int .i64 k ∧ wr = w) (fun _ i _ => 0)
    case atStart => exact ⟨rfl, rfl, rfl⟩
    case round =>
      obtain ⟨rfl, rfl, rfl⟩ := hrel
      go_wp2
      go_ret
      have e0 : (markC k 0).flatMap ComT.cells = [] := rfl
      rw [e0]
      exact ⟨ret_intM (by simp), h, (below_grown (Below.refl _ _))⟩
  have hcn : n * 3 ≤ cur.size := by rw [hs]; exact Nat.mul_le_mul_right _ h2
  have HB := hide hB
  have HP := hide (And.intro h1 (And.intro h2 (And.intro h3 (And.intro hlo (And.intro hs hcn)))))
  clear hB ht h1 h2 h3 hlo hs h
  go_enter Try.func18, Try.ntmps18
  go_wp2_with fail
  go_loopw [1, 5] (fun t i wr => ∃ j : Nat, j ≤ n ∧ i = .int .i64 j ∧ t = .int .i64 ((k : Int) + 3 * (j : Int)) ∧ w.grownBy wr (some g) ∧ ∃ cs : Array Value, Bk wr g 45 cs ∧ cs.size = cur.size ∧ ∀ t, t < j * 3 → cs[t]? = ((markC k n).flatMap ComT.cells)[t]?) (fun _ i _ => n - (intOf i).toNat)
  case atStart => exact ⟨0, by omega, rfl, by simp, ⟨rfl, rfl, rfl, Nat.le_refl _, fun _ _ _ => rfl⟩, cur, HB.out, rfl, fun t ht => absurd ht (by omega)⟩
  case round =>
    obtain ⟨j, hj, rfl, rfl, hgr, cs, hB, hcs, hcell⟩ := hrel
    have HC := hide (And.intro hB (And.intro hcs hcell))
    have HG := hide hgr
    by_cases hlt : j < n
    · have hz := hB.lt
      have hkk : j * 3 + 3 ≤ cs.size := by have := Nat.mul_le_mul_right 3 (show j + 1 ≤ n from hlt); rw [Nat.add_mul] at this; omega
      obtain ⟨o0, e0⟩ := hB.some_ (i := j * 3) (by omega)
      have q0 := hB.frozen (j * 3)
      obtain ⟨o1, e1⟩ := hB.some_ (i := j * 3 + 1) (by omega)
      have q1 := hB.frozen (j * 3 + 1)
      obtain ⟨o2, e2⟩ := hB.some_ (i := j * 3 + 2) (by omega)
      have q2 := hB.frozen (j * 3 + 2)
      have i1 : (0 : Int) ≤ (j : Int) := by omega
      have i2 : (j : Int) < (n : Int) := by omega
      clear hB hcs hcell hgr hcn hkk
      go_wp2
      go_roundw
      case rel =>
        obtain ⟨hB, hcs, hcell⟩ := HC.out
        have hl : j < (markC k n).length := by rw [markC_len]; exact hlt
        have hp := put_next' (f := ComT.cells) ComT.cells_len hl (cs := cs) (by rw [markC_len, hcs]; exact HP.out.2.2.2.2.2) hcell
        refine ⟨j + 1, by omega, by go_num, by simp; omega, (grown_set (grown_set (grown_set HG.out _ _) _ _) _ _), putAll cs (j * 3) (ComT.cells (markC k n)[j]), ?_, by rw [putAll_size]; exact hcs, hp⟩
        rw [markC_at hl]
        exact (((HC.out.1.set_ _ _).set_ _ _).set_ _ _)
      case measure => simp [intOf]; omega
    · obtain rfl : j = n := by omega
      clear hB hcs hcell hgr hcn
      go_wp2
      go_ret
      obtain ⟨hB, hcs, hcell⟩ := HC.out
      obtain ⟨h1, h2, h3, hlo, hs, hcn⟩ := HP.out
      refine ⟨rfl, ?_, HG.out⟩
      have hl := markC_len k j
      have hfl : ((markC k j).flatMap ComT.cells).length = j * 3 := by rw [flat_len ComT.cells 3 ComT.cells_len, hl]
      exact Own.mk_ hfl h2 h3 hlo hB (by rw [hcs, hs]) (by have := put_all' (f := ComT.cells) ComT.cells_len (l := markC k j) (cs := cs) (by rw [hl, hcs]; exact hcn) (by rw [hl]; exact hcell); rw [hl] at this; exact this)
theorem markC_end : True := trivial
end Go.Proofs.Ytdbfebhmldbdbaa
