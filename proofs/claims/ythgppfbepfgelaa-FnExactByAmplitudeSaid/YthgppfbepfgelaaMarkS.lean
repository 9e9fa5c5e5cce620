/-
  Contracts of the laws' helpers that write marks into a list of records and look for them.
-/
import Derived.Test.YthgppfbepfgelaaMarkT
import Derived.Test.YthgppfbepfgelaaRecS
import Derived.Outline
import Derived.Deep.RegionHeld3
namespace Go.Proofs.Ythgppfbepfgelaa
open Go.RowKit
set_option linter.unusedVariables false
set_option linter.unusedSimpArgs false
def markS (k n : Nat) : List StarT := (List.range n).map fun (i : Nat) => { name := markB (k + 5 * i), asc := (k : Int) + 5 * (i : Int) + 1, dec := (k : Int) + 5 * (i : Int) + 1 + 1, bri := (k : Int) + 5 * (i : Int) + 1 + 1 + 1, fai := (k : Int) + 5 * (i : Int) + 1 + 1 + 1 + 1 }
theorem markS_len (k n : Nat) : (markS k n).length = n := by simp [markS]
theorem markS_at {k n i : Nat} (h : i < (markS k n).length) : (markS k n)[i] = { name := markB (k + 5 * i), asc := (k : Int) + 5 * (i : Int) + 1, dec := (k : Int) + 5 * (i : Int) + 1 + 1, bri := (k : Int) + 5 * (i : Int) + 1 + 1 + 1, fai := (k : Int) + 5 * (i : Int) + 1 + 1 + 1 + 1 } := by simp [markS]
theorem markText_atS {x : Int} (k : Nat) (hx : x = (k : Int)) (w : World) (h0 : 0 < k) (hk : k ≤ 1000000000) : Calls Try.prog 21 #[.int .i64 x] w fun e w' => e = .returned (.string (markB k)) ∧ Below w.heap.size w w' := hx ▸ markText_any k w h0 hk
set_option maxHeartbeats 2000000 in
theorem markStarS_any (A : Option Addr) (n c k lo : Nat) (xs : List Value) (w : World) (hn : n ≤ 1048577) (h0 : 0 < k) (hk : k ≤ 100000000) (h : Own w lo 38 5 A n c xs) :
    Calls Try.prog 10 #[.slice A n c, .int .i64 k] w fun e w' => e = .returned (.int .i64 ((k : Int) + 5 * (n : Int))) ∧ Own w' lo 38 5 A n c ((markS k n).flatMap StarT.cells) ∧ Only w w' A := by
  obtain ⟨h1, h2, h3, ⟨rfl, rfl, rfl⟩ | ⟨g, cur, rfl, hlo, hB, hs, ht⟩⟩ := h.parts
  · have hx : xs = [] := List.eq_nil_of_length_eq_zero (by simpa using h1)
    subst hx
    go_enter Try.func10, Try.ntmps10
    go_wp2_with fail
    go_loopw [1, 5] (fun t i wr => i = .int .i64 0 ∧ t = .int .i64 k ∧ wr = w) (fun _ i _ => 0)
    case atStart => exact ⟨rfl, rfl, rfl⟩
    case round =>
      obtain ⟨rfl, rfl, rfl⟩ := hrel
      go_wp2
      go_ret
      have e0 : (markS k 0).flatMap StarT.cells = [] := rfl
      rw [e0]
      exact ⟨ret_intM (by simp), h, (below_grown (Below.refl _ _))⟩
  have hcn : n * 5 ≤ cur.size := by rw [hs]; exact Nat.mul_le_mul_right _ h2
  have HB := hide hB
  have HP := hide (And.intro h1 (And.intro h2 (And.intro h3 (And.intro hlo (And.intro hs hcn)))))
  clear hB ht h1 h2 h3 hlo hs h
  go_enter Try.func10, Try.ntmps10
  go_wp2_with fail
  go_loopw [1, 5] (fun t i wr => ∃ j : Nat, j ≤ n ∧ i = .int .i64 j ∧ t = .int .i64 ((k : Int) + 5 * (j : Int)) ∧ w.grownBy wr (some g) ∧ ∃ cs : Array Value, Bk wr g 38 cs ∧ cs.size = cur.size ∧ ∀ t, t < j * 5 → cs[t]? = ((markS k n).flatMap StarT.cells)[t]?) (fun _ i _ => n - (intOf i).toNat)
  case atStart => exact ⟨0, by omega, rfl, by simp, ⟨rfl, rfl, rfl, Nat.le_refl _, fun _ _ _ => rfl⟩, cur, HB.out, rfl, fun t ht => absurd ht (by omega)⟩
  case round =>
    obtain ⟨j, hj, rfl, rfl, hgr, cs, hB, hcs, hcell⟩ := hrel
    have HC := hide (And.intro hB (And.intro hcs hcell))
    have HG := hide hgr
    by_cases hlt : j < n
    · have hz := hB.lt
      have hkk : j * 5 + 5 ≤ cs.size := by have := Nat.mul_le_mul_right 5 (show j + 1 ≤ n from hlt); rw [Nat.add_mul] at this; omega
      obtain ⟨o0, e0⟩ := hB.some_ (i := j * 5) (by omega)
      have q0 := hB.frozen (j * 5)
      obtain ⟨o1, e1⟩ := hB.some_ (i := j * 5 + 1) (by omega)
      have q1 := hB.frozen (j * 5 + 1)
      obtain ⟨o2, e2⟩ := hB.some_ (i := j * 5 + 2) (by omega)
      have q2 := hB.frozen (j * 5 + 2)
      obtain ⟨o3, e3⟩ := hB.some_ (i := j * 5 + 3) (by omega)
      have q3 := hB.frozen (j * 5 + 3)
      obtain ⟨o4, e4⟩ := hB.some_ (i := j * 5 + 4) (by omega)
      have q4 := hB.frozen (j * 5 + 4)
      have i1 : (0 : Int) ≤ (j : Int) := by omega
      have i2 : (j : Int) < (n : Int) := by omega
      clear hB hcs hcell hgr hcn hkk
      go_wp2_with fail
      refine (markText_atS (k + 5 * j) (by omega) _ (by omega) (by omega)).mono ?_
      rintro e w1 ⟨rfl, hb1⟩
      obtain ⟨hcb1, hfb1⟩ := bcell hb1
      have hz1 : g < w1.heap.size := by have := hb1.size; (try simp at this); omega
      have HB1 := hide hb1
      clear hb1
      go_wp2
      go_roundw
      case rel =>
        obtain ⟨hB, hcs, hcell⟩ := HC.out
        have hl : j < (markS k n).length := by rw [markS_len]; exact hlt
        have hp := put_next' (f := StarT.cells) StarT.cells_len hl (cs := cs) (by rw [markS_len, hcs]; exact HP.out.2.2.2.2.2) hcell
        refine ⟨j + 1, by omega, by go_num, by simp; omega, (grown_set (grown_set (grown_set (grown_set (grown_set (grown_below HG.out HB1.out) _ _) _ _) _ _) _ _) _ _), putAll cs (j * 5) (StarT.cells (markS k n)[j]), ?_, by rw [putAll_size]; exact hcs, hp⟩
        rw [markS_at hl]
        exact ((((((HC.out.1.below HB1.out HC.out.1.lt).set_ _ _).set_ _ _).set_ _ _).set_ _ _).set_ _ _)
      case measure => simp [intOf]; omega
    · obtain rfl : j = n := by omega
      clear hB hcs hcell hgr hcn
      go_wp2
      go_ret
      obtain ⟨hB, hcs, hcell⟩ := HC.out
      obtain ⟨h1, h2, h3, hlo, hs, hcn⟩ := HP.out
      refine ⟨rfl, ?_, HG.out⟩
      have hl := markS_len k j
      have hfl : ((markS k j).flatMap StarT.cells).length = j * 5 := by rw [flat_len StarT.cells 5 StarT.cells_len, hl]
      exact Own.mk_ hfl h2 h3 hlo hB (by rw [hcs, hs]) (by have := put_all' (f := StarT.cells) StarT.cells_len (l := markS k j) (cs := cs) (by rw [hl, hcs]; exact hcn) (by rw [hl]; exact hcell); rw [hl] at this; exact this)
theorem markS_end : True := trivial
end Go.Proofs.Ythgppfbepfgelaa
