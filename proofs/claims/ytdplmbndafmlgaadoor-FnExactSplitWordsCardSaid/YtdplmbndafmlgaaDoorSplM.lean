/-
  Contracts of the laws' helpers that write marks into a list of records and look for them.
-/
import Derived.Test.YtdplmbndafmlgaaDoorMarkT
import Derived.Test.YtdplmbndafmlgaaDoorSplW
import Derived.Outline
import Derived.Deep.RegionHeld3
namespace Go.Proofs.YtdplmbndafmlgaaDoor
open Go.RowKit
set_option linter.unusedVariables false
set_option linter.unusedSimpArgs false
def oneS (x : ByteArray) : List Value := [.string x]
theorem oneS_len (x : ByteArray) : (oneS x).length = 1 := rfl
def markW (k n : Nat) : List ByteArray := (List.range n).map fun (i : Nat) => markB (k + i)
theorem markW_len (k n : Nat) : (markW k n).length = n := by simp [markW]
theorem markW_at {k n i : Nat} (h : i < (markW k n).length) : (markW k n)[i] = markB (k + i) := by simp [markW]
theorem markText_atW {x : Int} (k : Nat) (hx : x = (k : Int)) (w : World) (h0 : 0 < k) (hk : k ≤ 1000000000) : Calls Tryd.prog 73 #[.int .i64 x] w fun e w' => e = .returned (.string (markB k)) ∧ Below w.heap.size w w' := hx ▸ markText_any k w h0 hk
set_option maxHeartbeats 2000000 in
theorem markStringS_any (A : Option Addr) (n c k lo : Nat) (xs : List Value) (w : World) (hn : n ≤ 1048577) (h0 : 0 < k) (hk : k ≤ 100000000) (h : Own w lo 9 1 A n c xs) :
    Calls Tryd.prog 38 #[.slice A n c, .int .i64 k] w fun e w' => e = .returned (.int .i64 ((k : Int) + (n : Int))) ∧ Own w' lo 9 1 A n c ((markW k n).flatMap oneS) ∧ Only w w' A := by
  obtain ⟨h1, h2, h3, ⟨rfl, rfl, rfl⟩ | ⟨g, cur, rfl, hlo, hB, hs, ht⟩⟩ := h.parts
  · have hx : xs = [] := List.eq_nil_of_length_eq_zero (by simpa using h1)
    subst hx
    go_enter Tryd.func38, Tryd.ntmps38
    go_wp2_with fail
    go_loopw [1, 5] (fun t i wr => i = .int .i64 0 ∧ t = .int .i64 k ∧ wr = w) (fun _ i _ => 0)
    case atStart => exact ⟨rfl, rfl, rfl⟩
    case round =>
      obtain ⟨rfl, rfl, rfl⟩ := hrel
      go_wp2
      go_ret
      have e0 : (markW k 0).flatMap oneS = [] := rfl
      rw [e0]
      exact ⟨ret_intM (by simp), h, (below_grown (Below.refl _ _))⟩
  have hcn : n * 1 ≤ cur.size := by rw [hs]; exact Nat.mul_le_mul_right _ h2
  have HB := hide hB
  have HP := hide (And.intro h1 (And.intro h2 (And.intro h3 (And.intro hlo (And.intro hs hcn)))))
  clear hB ht h1 h2 h3 hlo hs h
  go_enter Tryd.func38, Tryd.ntmps38
  go_wp2_with fail
  go_loopw [1, 5] (fun t i wr => ∃ j : Nat, j ≤ n ∧ i = .int .i64 j ∧ t = .int .i64 ((k : Int) + (j : Int)) ∧ w.grownBy wr (some g) ∧ ∃ cs : Array Value, Bk wr g 9 cs ∧ cs.size = cur.size ∧ ∀ t, t < j * 1 → cs[t]? = ((markW k n).flatMap oneS)[t]?) (fun _ i _ => n - (intOf i).toNat)
  case atStart => exact ⟨0, by omega, rfl, by simp, ⟨rfl, rfl, rfl, Nat.le_refl _, fun _ _ _ => rfl⟩, cur, HB.out, rfl, fun t ht => absurd ht (by omega)⟩
  case round =>
    obtain ⟨j, hj, rfl, rfl, hgr, cs, hB, hcs, hcell⟩ := hrel
    have HC := hide (And.intro hB (And.intro hcs hcell))
    have HG := hide hgr
    by_cases hlt : j < n
    · have hz := hB.lt
      have hkk : j + 1 ≤ cs.size := by omega
      obtain ⟨o0, e0⟩ := hB.some_ (i := j) (by omega)
      have q0 := hB.frozen j
      have i1 : (0 : Int) ≤ (j : Int) := by omega
      have i2 : (j : Int) < (n : Int) := by omega
      clear hB hcs hcell hgr hcn hkk
      go_wp2_with fail
      refine (markText_atW (k + j) (by omega) _ (by omega) (by omega)).mono ?_
      rintro e w1 ⟨rfl, hb1⟩
      obtain ⟨hcb1, hfb1⟩ := bcell hb1
      have hz1 : g < w1.heap.size := by have := hb1.size; (try simp at this); omega
      have HB1 := hide hb1
      clear hb1
      go_wp2
      go_roundw
      case rel =>
        obtain ⟨hB, hcs, hcell⟩ := HC.out
        have hl : j < (markW k n).length := by rw [markW_len]; exact hlt
        have hp := put_next' (f := oneS) oneS_len hl (cs := cs) (by rw [markW_len, hcs]; exact HP.out.2.2.2.2.2) hcell
        refine ⟨j + 1, by omega, by go_num, by simp; omega, (grown_set (grown_below HG.out HB1.out) _ _), putAll cs (j * 1) (oneS (markW k n)[j]), ?_, by rw [putAll_size]; exact hcs, hp⟩
        rw [markW_at hl, Nat.mul_one]
        exact ((HC.out.1.below HB1.out HC.out.1.lt).set_ _ _)
      case measure => simp [intOf]; omega
    · obtain rfl : j = n := by omega
      clear hB hcs hcell hgr hcn
      go_wp2
      go_ret
      obtain ⟨hB, hcs, hcell⟩ := HC.out
      obtain ⟨h1, h2, h3, hlo, hs, hcn⟩ := HP.out
      refine ⟨rfl, ?_, HG.out⟩
      have hl := markW_len k j
      have hfl : ((markW k j).flatMap oneS).length = j * 1 := by rw [flat_len oneS 1 oneS_len, hl]
      exact Own.mk_ hfl h2 h3 hlo hB (by rw [hcs, hs]) (by have := put_all' (f := oneS) oneS_len (l := markW k j) (cs := cs) (by rw [hl, hcs]; exact hcn) (by rw [hl]; exact hcell); rw [hl] at this; exact this)
set_option maxHeartbeats 2000000 in
theorem heldStringS_any (A : Option Addr) (c k n : Nat) (w : World) (hn : n ≤ 1048577) (h0 : 0 < k) (hk : k ≤ 100000000) (hr : Rd w w.heap.size 1 A n ((markW k n).flatMap oneS)) :
    Calls Tryd.prog 39 #[.slice A n c, .int .i64 k] w fun e w' => e = .returned (.int .i64 ((k : Int) + (n : Int))) ∧ Below w.heap.size w w' := by
  have HR := hide (show Rd w w.heap.size 1 A (markW k n).length ((markW k n).flatMap oneS) from by rw [markW_len]; exact hr)
  clear hr
  go_enter Tryd.func39, Tryd.ntmps39
  go_wp2_with fail
  go_loopw [1, 5] (fun t i wr => ∃ j : Nat, j ≤ n ∧ i = .int .i64 j ∧ t = .int .i64 ((k : Int) + (j : Int)) ∧ Below w.heap.size w wr) (fun _ i _ => n - (intOf i).toNat)
  case atStart => exact ⟨0, by omega, rfl, by simp, (by repeat (first | exact Below.refl _ _ | assumption | refine Below.drew ?_ | refine below_drewN ?_ _ | refine Below.alloc ?_ (by first | omega | (simp; done) | (simp; omega)) _ | refine Below.setCell ?_ (by first | omega | (simp; done) | (simp; omega)) _ | refine Below.trans ?_ (Below.mono (by assumption) (by first | omega | (simp; done) | (simp; omega)))))⟩
  case round =>
    obtain ⟨j, hj, rfl, rfl, hb⟩ := hrel
    have Hb := hide hb
    by_cases hlt : j < n
    · have hl : j < (markW k n).length := by rw [markW_len]; exact hlt
      obtain ⟨g, off, rfl, hg, hc⟩ := HR.out.elem oneS_len hl
      rw [markW_at hl] at hc
      have f0 : wr.cell? ⟨g, off + j, none⟩ = some (.string (markB (k + j))) := (hb.cell (p := ⟨g, off + j, none⟩) hg).trans (by have := hc 0 _ rfl; simpa using this)
      have hz : g < wr.heap.size := by have := hb.size; omega
      have i1 : (0 : Int) ≤ (j : Int) := by omega
      have i2 : (j : Int) < (n : Int) := by omega
      clear hc hb hl
      go_wp2_with fail
      go_region_held3 (fun w' => w'.cell? ⟨g, off + j, none⟩ = some (.string (markB (k + j)))) (go_keep)
        (first | (go_at_call 73; refine (markText_atW (k + j) (by omega) _ (by omega) (by omega)).mono ?_; rintro e w1 ⟨rfl, hb0⟩; have d00 := (hb0.cell (p := ⟨g, off + j, none⟩) hz).trans f0))
      have hz1 : g < w1.heap.size := by have := hb0.size; (try simp at this); omega
      have HB0 := hide hb0
      go_wp2
      go_roundw
      case rel => exact ⟨j + 1, by omega, by go_num, by simp; omega, (Hb.out.drew.trans (HB0.out.mono Hb.out.size))⟩
      case measure => simp [intOf]; omega
    · obtain rfl : j = n := by omega
      clear hb
      go_wp2
      go_ret
      exact ⟨rfl, Hb.out⟩
theorem strs_ones (xs : List (List UInt8)) : (xs.map baL).flatMap oneS = strs xs := by
  induction xs with
  | nil => rfl
  | cons x xs ih => simp only [List.map_cons, List.flatMap_cons, ih]; simp [strs, oneS, baL]
theorem eqStringS_same (A A' : Option Addr) (c c' : Nat) (l : List ByteArray) (w : World) (hn : l.length ≤ 1048577) (hr : Rd w w.heap.size 1 A l.length (l.flatMap oneS)) (hr' : Rd w w.heap.size 1 A' l.length (l.flatMap oneS)) :
    Calls Tryd.prog 37 #[.slice A l.length c, .slice A' l.length c'] w fun e w' => e = .returned (.bool true) ∧ Below w.heap.size w w' := by
  go_enter Tryd.func37, Tryd.ntmps37
  go_wp2_with fail
  go_loopw [5] (fun i wr => ∃ k : Nat, k ≤ l.length ∧ i = .int .i64 k ∧ ∃ n, wr = w.drewN n) (fun i _ => l.length - (intOf i).toNat)
  case atStart => exact ⟨0, by omega, rfl, 0, rfl⟩
  case round =>
    obtain ⟨k, hk, rfl, n, rfl⟩ := hrel
    by_cases hlt : k < l.length
    · obtain ⟨g, off, rfl, hg, hc⟩ := hr.elem oneS_len hlt
      obtain ⟨g', off', rfl, hg', hc'⟩ := hr'.elem oneS_len hlt
      have f0 : w.cell? ⟨g, off + k, none⟩ = some (.string l[k]) := by
        have := hc 0 _ rfl
        simpa using this
      have h0 : w.cell? ⟨g', off' + k, none⟩ = some (.string l[k]) := by
        have := hc' 0 _ rfl
        simpa using this
      have i1 : (0 : Int) ≤ (k : Int) := by omega
      have i2 : (k : Int) < (l.length : Int) := by omega
      have hbb := (MapKept.bytes_beq l[k] l[k]).2 rfl
      clear hc hc' hr hr'
      go_wp2_with fail
      go_quiet (fail)
      go_wp2
      go_roundw
      case rel => exact ⟨k + 1, by omega, by go_num, by first | exact ⟨_, rfl⟩ | exact ⟨_, World.drewN_drewN _ _ _⟩⟩
      case measure => simp [intOf]; omega
    · obtain rfl : k = l.length := by omega
      clear hr hr'
      go_wp2
      go_ret
      exact ⟨rfl, (by repeat (first | exact Below.refl _ _ | assumption | refine Below.drew ?_ | refine below_drewN ?_ _ | refine Below.alloc ?_ (by first | omega | (simp; done) | (simp; omega)) _ | refine Below.setCell ?_ (by first | omega | (simp; done) | (simp; omega)) _ | refine Below.trans ?_ (Below.mono (by assumption) (by first | omega | (simp; done) | (simp; omega)))))⟩
theorem eqStrs_same (A A' : Option Addr) (c c' : Nat) (xs : List (List UInt8)) (w : World) (hn : xs.length ≤ 1048577) (hr : Rd w w.heap.size 1 A xs.length (strs xs)) (hr' : Rd w w.heap.size 1 A' xs.length (strs xs)) :
    Calls Tryd.prog 37 #[.slice A xs.length c, .slice A' xs.length c'] w fun e w' => e = .returned (.bool true) ∧ Below w.heap.size w w' := by
  have h := eqStringS_same A A' c c' (xs.map baL) w (by simpa using hn) (by rw [strs_ones]; simpa using hr) (by rw [strs_ones]; simpa using hr')
  simpa using h
theorem markW_end : True := trivial
end Go.Proofs.YtdplmbndafmlgaaDoor
