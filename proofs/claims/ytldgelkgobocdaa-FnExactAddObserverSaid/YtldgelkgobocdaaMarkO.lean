/-
  Contracts of the laws' helpers that write marks into a list of records and look for them.
-/
import Derived.Test.YtldgelkgobocdaaMarkT
import Derived.Test.YtldgelkgobocdaaRecO
import Derived.Outline
import Derived.Deep.RegionHeld3
namespace Go.Proofs.Ytldgelkgobocdaa
open Go.RowKit
set_option linter.unusedVariables false
set_option linter.unusedSimpArgs false
def markO (k n : Nat) : List ObsT := (List.range n).map fun (i : Nat) => { name := markB (k + 2 * i), shift := (k : Int) + 2 * (i : Int) + 1 }
theorem markO_len (k n : Nat) : (markO k n).length = n := by simp [markO]
theorem markO_at {k n i : Nat} (h : i < (markO k n).length) : (markO k n)[i] = { name := markB (k + 2 * i), shift := (k : Int) + 2 * (i : Int) + 1 } := by simp [markO]
theorem markText_atO {x : Int} (k : Nat) (hx : x = (k : Int)) (w : World) (h0 : 0 < k) (hk : k ≤ 1000000000) : Calls Try.prog 81 #[.int .i64 x] w fun e w' => e = .returned (.string (markB k)) ∧ Below w.heap.size w w' := hx ▸ markText_any k w h0 hk
set_option maxHeartbeats 2000000 in
theorem markObserverS_any (A : Option Addr) (n c k lo : Nat) (xs : List Value) (w : World) (hn : n ≤ 1048577) (h0 : 0 < k) (hk : k ≤ 100000000) (h : Own w lo 77 2 A n c xs) :
    Calls Try.prog 42 #[.slice A n c, .int .i64 k] w fun e w' => e = .returned (.int .i64 ((k : Int) + 2 * (n : Int))) ∧ Own w' lo 77 2 A n c ((markO k n).flatMap ObsT.cells) ∧ Only w w' A := by
  obtain ⟨h1, h2, h3, ⟨rfl, rfl, rfl⟩ | ⟨g, cur, rfl, hlo, hB, hs, ht⟩⟩ := h.parts
  · have hx : xs = [] := List.eq_nil_of_length_eq_zero (by simpa using h1)
    subst hx
    go_enter Try.func42, Try.ntmps42
    go_wp2_with fail
    go_loopw [1, 5] (fun t i wr => i = .int .i64 0 ∧ t = .int .i64 k ∧ wr = w) (fun _ i _ => 0)
    case atStart => exact ⟨rfl, rfl, rfl⟩
    case round =>
      obtain ⟨rfl, rfl, rfl⟩ := hrel
      go_wp2
      go_ret
      have e0 : (markO k 0).flatMap ObsT.cells = [] := rfl
      rw [e0]
      exact ⟨ret_intM (by simp), h, (below_grown (Below.refl _ _))⟩
  have hcn : n * 2 ≤ cur.size := by rw [hs]; exact Nat.mul_le_mul_right _ h2
  have HB := hide hB
  have HP := hide (And.intro h1 (And.intro h2 (And.intro h3 (And.intro hlo (And.intro hs hcn)))))
  clear hB ht h1 h2 h3 hlo hs h
  go_enter Try.func42, Try.ntmps42
  go_wp2_with fail
  go_loopw [1, 5] (fun t i wr => ∃ j : Nat, j ≤ n ∧ i = .int .i64 j ∧ t = .int .i64 ((k : Int) + 2 * (j : Int)) ∧ w.grownBy wr (some g) ∧ ∃ cs : Array Value, Bk wr g 77 cs ∧ cs.size = cur.size ∧ ∀ t, t < j * 2 → cs[t]? = ((markO k n).flatMap ObsT.cells)[t]?) (fun _ i _ => n - (intOf i).toNat)
  case atStart => exact ⟨0, by omega, rfl, by simp, ⟨rfl, rfl, rfl, Nat.le_refl _, fun _ _ _ => rfl⟩, cur, HB.out, rfl, fun t ht => absurd ht (by omega)⟩
  case round =>
    obtain ⟨j, hj, rfl, rfl, hgr, cs, hB, hcs, hcell⟩ := hrel
    have HC := hide (And.intro hB (And.intro hcs hcell))
    have HG := hide hgr
    by_cases hlt : j < n
    · have hz := hB.lt
      have hkk : j * 2 + 2 ≤ cs.size := by have := Nat.mul_le_mul_right 2 (show j + 1 ≤ n from hlt); rw [Nat.add_mul] at this; omega
      obtain ⟨o0, e0⟩ := hB.some_ (i := j * 2) (by omega)
      have q0 := hB.frozen (j * 2)
      obtain ⟨o1, e1⟩ := hB.some_ (i := j * 2 + 1) (by omega)
      have q1 := hB.frozen (j * 2 + 1)
      have i1 : (0 : Int) ≤ (j : Int) := by omega
      have i2 : (j : Int) < (n : Int) := by omega
      clear hB hcs hcell hgr hcn hkk
      go_wp2_with fail
      refine (markText_atO (k + 2 * j) (by omega) _ (by omega) (by omega)).mono ?_
      rintro e w1 ⟨rfl, hb1⟩
      obtain ⟨hcb1, hfb1⟩ := bcell hb1
      have hz1 : g < w1.heap.size := by have := hb1.size; (try simp at this); omega
      have HB1 := hide hb1
      clear hb1
      go_wp2
      go_roundw
      case rel =>
        obtain ⟨hB, hcs, hcell⟩ := HC.out
        have hl : j < (markO k n).length := by rw [markO_len]; exact hlt
        have hp := put_next' (f := ObsT.cells) ObsT.cells_len hl (cs := cs) (by rw [markO_len, hcs]; exact HP.out.2.2.2.2.2) hcell
        refine ⟨j + 1, by omega, by go_num, by simp; omega, (grown_set (grown_set (grown_below HG.out HB1.out) _ _) _ _), putAll cs (j * 2) (ObsT.cells (markO k n)[j]), ?_, by rw [putAll_size]; exact hcs, hp⟩
        rw [markO_at hl]
        exact (((HC.out.1.below HB1.out HC.out.1.lt).set_ _ _).set_ _ _)
      case measure => simp [intOf]; omega
    · obtain rfl : j = n := by omega
      clear hB hcs hcell hgr hcn
      go_wp2
      go_ret
      obtain ⟨hB, hcs, hcell⟩ := HC.out
      obtain ⟨h1, h2, h3, hlo, hs, hcn⟩ := HP.out
      refine ⟨rfl, ?_, HG.out⟩
      have hl := markO_len k j
      have hfl : ((markO k j).flatMap ObsT.cells).length = j * 2 := by rw [flat_len ObsT.cells 2 ObsT.cells_len, hl]
      exact Own.mk_ hfl h2 h3 hlo hB (by rw [hcs, hs]) (by have := put_all' (f := ObsT.cells) ObsT.cells_len (l := markO k j) (cs := cs) (by rw [hl, hcs]; exact hcn) (by rw [hl]; exact hcell); rw [hl] at this; exact this)
set_option maxHeartbeats 2000000 in
theorem heldObserverS_any (A : Option Addr) (c k n : Nat) (w : World) (hn : n ≤ 1048577) (h0 : 0 < k) (hk : k ≤ 100000000) (hr : Rd w w.heap.size 2 A n ((markO k n).flatMap ObsT.cells)) :
    Calls Try.prog 43 #[.slice A n c, .int .i64 k] w fun e w' => e = .returned (.int .i64 ((k : Int) + 2 * (n : Int))) ∧ Below w.heap.size w w' := by
  have HR := hide (show Rd w w.heap.size 2 A (markO k n).length ((markO k n).flatMap ObsT.cells) from by rw [markO_len]; exact hr)
  clear hr
  go_enter Try.func43, Try.ntmps43
  go_wp2_with fail
  go_loopw [1, 5] (fun t i wr => ∃ j : Nat, j ≤ n ∧ i = .int .i64 j ∧ t = .int .i64 ((k : Int) + 2 * (j : Int)) ∧ Below w.heap.size w wr) (fun _ i _ => n - (intOf i).toNat)
  case atStart => exact ⟨0, by omega, rfl, by simp, (by repeat (first | exact Below.refl _ _ | assumption | refine Below.drew ?_ | refine below_drewN ?_ _ | refine Below.alloc ?_ (by first | omega | (simp; done) | (simp; omega)) _ | refine Below.setCell ?_ (by first | omega | (simp; done) | (simp; omega)) _ | refine Below.trans ?_ (Below.mono (by assumption) (by first | omega | (simp; done) | (simp; omega)))))⟩
  case round =>
    obtain ⟨j, hj, rfl, rfl, hb⟩ := hrel
    have Hb := hide hb
    by_cases hlt : j < n
    · have hl : j < (markO k n).length := by rw [markO_len]; exact hlt
      obtain ⟨g, off, rfl, hg, hc⟩ := HR.out.elem ObsT.cells_len hl
      rw [markO_at hl] at hc
      have f0 : wr.cell? ⟨g, off + j * 2, none⟩ = some (.string (markB (k + 2 * j))) := (hb.cell (p := ⟨g, off + j * 2, none⟩) hg).trans (hc 0 _ rfl)
      have f1 : wr.cell? ⟨g, off + j * 2 + 1, none⟩ = some (.int .i64 ((k : Int) + 2 * (j : Int) + 1)) := (hb.cell (p := ⟨g, off + j * 2 + 1, none⟩) hg).trans (hc 1 _ rfl)
      have hz : g < wr.heap.size := by have := hb.size; omega
      have i1 : (0 : Int) ≤ (j : Int) := by omega
      have i2 : (j : Int) < (n : Int) := by omega
      clear hc hb hl
      go_wp2_with fail
      go_region_held3 (fun w' => w'.cell? ⟨g, off + j * 2, none⟩ = some (.string (markB (k + 2 * j))) ∧ w'.cell? ⟨g, off + j * 2 + 1, none⟩ = some (.int .i64 ((k : Int) + 2 * (j : Int) + 1))) (go_keep)
        (first | (go_at_call 81; refine (markText_atO (k + 2 * j) (by omega) _ (by omega) (by omega)).mono ?_; rintro e w1 ⟨rfl, hb0⟩; have d00 := (hb0.cell (p := ⟨g, off + j * 2, none⟩) hz).trans f0; have d01 := (hb0.cell (p := ⟨g, off + j * 2 + 1, none⟩) hz).trans f1))
      have hz1 : g < w1.heap.size := by have := hb0.size; (try simp at this); omega
      have HB0 := hide hb0
      go_wp2
      go_roundw
      case rel => exact ⟨j + 1, by omega, by go_num, by simp; omega, (Hb.out.drew.trans (HB0.out.mono Hb.out.size))⟩
      case measure => simp [intOf]; omega
    · obtain rfl : j = n := by omega
      clear hb
      go_wp2
      go_ret
      exact ⟨rfl, Hb.out⟩
theorem markO_end : True := trivial
end Go.Proofs.Ytldgelkgobocdaa
