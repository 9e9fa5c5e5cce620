/-
  Contracts of the laws' helpers that write marks into a list of integers and look for them.
-/
import Derived.Test.YthgppfbepfgelaaOwn
import Derived.Test.YthgppfbepfgelaaRec
import Derived.Outline
namespace Go.Proofs.Ythgppfbepfgelaa
open Go.RowKit
set_option linter.unusedVariables false
set_option linter.unusedSimpArgs false
theorem ret_intM {a b : Int} (h : a = b) : Ending.returned (.int .i64 a) = .returned (.int .i64 b) := by rw [h]
theorem ret_boolM {a b : Bool} (h : a = b) : Ending.returned (.bool a) = .returned (.bool b) := by rw [h]
def markI (k n : Nat) : List Int := (List.range n).map fun (i : Nat) => ((k : Int) + (i : Int))
theorem markI_len (k n : Nat) : (markI k n).length = n := by simp [markI]
theorem markI_at {k n i : Nat} (h : i < (markI k n).length) : (markI k n)[i] = (k : Int) + (i : Int) := by simp [markI]
set_option maxHeartbeats 1000000 in
theorem markInt64S_any (A : Option Addr) (n c k lo : Nat) (xs : List Value) (w : World) (hn : n ≤ 1048576) (hk : k ≤ 100000000) (h : Own w lo 2 1 A n c xs) :
    Calls Try.prog 11 #[.slice A n c, .int .i64 k] w fun e w' => e = .returned (.int .i64 ((k : Int) + (n : Int))) ∧ Own w' lo 2 1 A n c (ints (markI k n)) ∧ Only w w' A := by
  obtain ⟨h1, h2, h3, ⟨rfl, rfl, rfl⟩ | ⟨g, cur, rfl, hlo, hB, hs, ht⟩⟩ := h.parts
  · have hx : xs = [] := List.eq_nil_of_length_eq_zero (by simpa using h1)
    subst hx
    go_enter Try.func11, Try.ntmps11
    go_wp2_with fail
    go_loopw [1, 5] (fun t i wr => i = .int .i64 0 ∧ t = .int .i64 k ∧ wr = w) (fun _ i _ => 0)
    case atStart => exact ⟨rfl, rfl, rfl⟩
    case round =>
      obtain ⟨rfl, rfl, rfl⟩ := hrel
      go_wp2
      go_ret
      have e0 : ints (markI k 0) = [] := rfl
      rw [e0]
      exact ⟨ret_intM (by simp), h, (below_grown (Below.refl _ _))⟩
  have hcn : n * 1 ≤ cur.size := by rw [hs]; omega
  have HB := hide hB
  have HP := hide (And.intro h1 (And.intro h2 (And.intro h3 (And.intro hlo (And.intro hs hcn)))))
  clear hB ht h1 h2 h3 hlo hs h
  go_enter Try.func11, Try.ntmps11
  go_wp2_with fail
  go_loopw [1, 5] (fun t i wr => ∃ j : Nat, j ≤ n ∧ i = .int .i64 j ∧ t = .int .i64 ((k : Int) + (j : Int)) ∧ w.grownBy wr (some g) ∧ ∃ cs : Array Value, Bk wr g 2 cs ∧ cs.size = cur.size ∧ ∀ t, t < j * 1 → cs[t]? = ((markI k n).flatMap one)[t]?) (fun _ i _ => n - (intOf i).toNat)
  case atStart => exact ⟨0, by omega, rfl, by simp, ⟨rfl, rfl, rfl, Nat.le_refl _, fun _ _ _ => rfl⟩, cur, HB.out, rfl, fun t ht => absurd ht (by omega)⟩
  case round =>
    obtain ⟨j, hj, rfl, rfl, hgr, cs, hB, hcs, hcell⟩ := hrel
    have HC := hide (And.intro hB (And.intro hcs hcell))
    have HG := hide hgr
    by_cases hlt : j < n
    · obtain ⟨o0, e0⟩ := hB.some_ (i := j) (by omega)
      have q0 := hB.frozen j
      have i1 : (0 : Int) ≤ (j : Int) := by omega
      have i2 : (j : Int) < (n : Int) := by omega
      clear hB hcs hcell hgr hcn
      go_wp2
      go_roundw
      case rel =>
        obtain ⟨hB, hcs, hcell⟩ := HC.out
        have hl : j < (markI k n).length := by rw [markI_len]; exact hlt
        have hp := put_next' (f := one) one_len hl (cs := cs) (by rw [markI_len, hcs]; exact HP.out.2.2.2.2.2) hcell
        refine ⟨j + 1, by omega, by go_num, by simp; omega, ?_, putAll cs (j * 1) (one (markI k n)[j]), ?_, by rw [putAll_size]; exact hcs, hp⟩
        · exact ⟨HG.out.os, HG.out.tape, HG.out.output, by simpa using HG.out.size, fun b hb hne => (Below.heap_setCell _ _ _ _ (by simpa using hne)).trans (HG.out.block b hb hne)⟩
        · rw [markI_at hl, Nat.mul_one]; exact hB.set_ _ _
      case measure => simp [intOf]; omega
    · obtain rfl : j = n := by omega
      clear hB hcs hcell hgr hcn
      go_wp2
      go_ret
      obtain ⟨hB, hcs, hcell⟩ := HC.out
      obtain ⟨h1, h2, h3, hlo, hs, hcn⟩ := HP.out
      refine ⟨rfl, ?_, HG.out⟩
      rw [← ones]
      have hl := markI_len k j
      have hfl : ((markI k j).flatMap one).length = j * 1 := by rw [flat_len one 1 one_len, hl]
      exact Own.mk_ hfl h2 h3 hlo hB (by rw [hcs, hs]) (by have := put_all' (f := one) one_len (l := markI k j) (cs := cs) (by rw [hl, hcs]; exact hcn) (by rw [hl]; exact hcell); rw [hl] at this; exact this)
theorem heldInt64S_any (A : Option Addr) (c k n : Nat) (w : World) (hn : n ≤ 1048576) (hk : k ≤ 100000000) (hr : Rd w w.heap.size 1 A n (ints (markI k n))) :
    Calls Try.prog 12 #[.slice A n c, .int .i64 k] w fun e w' => e = .returned (.int .i64 ((k : Int) + (n : Int))) ∧ w = w' := by
  have hl := markI_len k n
  go_enter Try.func12, Try.ntmps12
  go_wp2
  go_loop [1, 5] (fun t i => ∃ j : Nat, j ≤ n ∧ i = .int .i64 j ∧ t = .int .i64 ((k : Int) + (j : Int))) (fun _ i => n - (intOf i).toNat)
  case atStart => exact ⟨0, by omega, rfl, by simp⟩
  case round =>
    obtain ⟨j, hj, rfl, rfl⟩ := hrel
    by_cases hlt : j < n
    · obtain ⟨g, off, rfl, hg, hc⟩ := hr.at_ hlt
      have f0 : w.cell? ⟨g, off + j, none⟩ = some (.int .i64 ((k : Int) + (j : Int))) := hc j _ (by simp [ints, markI, hlt])
      have i1 : (0 : Int) ≤ (j : Int) := by omega
      have i2 : (j : Int) < (n : Int) := by omega
      clear hc hr hl
      go_wp2
      go_round
      case rel => exact ⟨j + 1, by omega, by go_num, by simp; omega⟩
      case measure => simp [intOf]; omega
    · obtain rfl : j = n := by omega
      clear hr hl
      go_wp2
      go_ret
      exact ⟨rfl, rfl⟩
theorem markI_end : True := trivial
end Go.Proofs.Ythgppfbepfgelaa
