/-
  Contracts of the laws' helpers on lists: copies, comparisons of equal lists, sizes.
-/
import Derived.Test.YtdbfebhmldbdbaaChecked
import Derived.Test.YtdbfebhmldbdbaaRec
import Derived.WalkKit
import Derived.Deep.QuietTactic
import Derived.BigQuiet
import Derived.Deep.RegionHeld3
namespace Go.Proofs.Ytdbfebhmldbdbaa
open Go.RowKit
set_option linter.unusedVariables false
set_option linter.unusedSimpArgs false
theorem info_Common : (Try.prog.info? 45).map (fun i => (i.zero, i.size, i.bytes)) = some (some (.agg #[.int .i64 0, .int .i64 0, .int .i64 0]), 3, 24) := by kernel_rfl
theorem toCommon_any (a0 : Int) (a1 : Int) (a2 : Int) (w : World) : Calls Try.prog 30 #[.agg #[.int .i64 a0, .int .i64 a1, .int .i64 a2]] w fun e w' => e = .returned (.agg #[.int .i64 a0, .int .i64 a1, .int .i64 a2]) ∧ Below w.heap.size w w' := by
  go_enter Try.func30, Try.ntmps30
  go_wp2
  exact bodyPost_ret (v := .agg #[.int .i64 a0, .int .i64 a1, .int .i64 a2]) (by simp [results, Try.results30, go_sem]) rfl ⟨rfl, (by repeat (first | exact Below.refl _ _ | assumption | refine Below.drew ?_ | refine below_drewN ?_ _ | refine Below.alloc ?_ (by first | omega | (simp; done) | (simp; omega)) _ | refine Below.setCell ?_ (by first | omega | (simp; done) | (simp; omega)) _ | refine Below.trans ?_ (Below.mono (by assumption) (by first | omega | (simp; done) | (simp; omega)))))⟩
theorem eqCommon_same (a0 : Int) (a1 : Int) (a2 : Int) (w : World) : Calls Try.prog 35 #[.agg #[.int .i64 a0, .int .i64 a1, .int .i64 a2], .agg #[.int .i64 a0, .int .i64 a1, .int .i64 a2]] w fun e w' => e = .returned (.bool true) ∧ Below w.heap.size w w' := by
  go_enter Try.func35, Try.ntmps35
  go_wp2
  go_ret
  exact ⟨rfl, (by repeat (first | exact Below.refl _ _ | assumption | refine Below.drew ?_ | refine below_drewN ?_ _ | refine Below.alloc ?_ (by first | omega | (simp; done) | (simp; omega)) _ | refine Below.setCell ?_ (by first | omega | (simp; done) | (simp; omega)) _ | refine Below.trans ?_ (Below.mono (by assumption) (by first | omega | (simp; done) | (simp; omega)))))⟩
set_option maxHeartbeats 1000000 in
theorem toCommonS_any (A : Option Addr) (c : Nat) (l : List ComT) (w : World) (hn : l.length ≤ 1048576) (hr : Rd w w.heap.size 3 A l.length (l.flatMap ComT.cells)) :
    Calls Try.prog 13 #[.slice A l.length c] w fun e w' => e = .returned (.slice (some ⟨w.heap.size, 0, none⟩) l.length l.length) ∧ Below w.heap.size w w' ∧ Bk w' w.heap.size 45 (l.flatMap ComT.cells).toArray := by
  obtain ⟨i0, hi, hz0, hz1, hz2⟩ := info_parts info_Common
  go_enter Try.func13, Try.ntmps13
  obtain ⟨Z, hZ, hmk⟩ := mk_rows Try.underlying31 hi hz0 hz1 hz2 l.length (by omega) (by omega)
  have HZ := hide hZ
  clear hi hz0 hz1 hz2 hZ
  go_wp2_with fail
  go_loopw [4] (fun i wr => ∃ k : Nat, k ≤ l.length ∧ i = .int .i64 k ∧ Below w.heap.size w wr ∧ ∃ cs : Array Value, Bk wr w.heap.size 45 cs ∧ cs.size = l.length * 3 ∧ ∀ j, j < k * 3 → cs[j]? = (l.flatMap ComT.cells)[j]?) (fun i _ => l.length - (intOf i).toNat)
  case atStart => exact ⟨0, by omega, rfl, (by repeat (first | exact Below.refl _ _ | assumption | refine Below.drew ?_ | refine below_drewN ?_ _ | refine Below.alloc ?_ (by first | omega | (simp; done) | (simp; omega)) _ | refine Below.setCell ?_ (by first | omega | (simp; done) | (simp; omega)) _ | refine Below.trans ?_ (Below.mono (by assumption) (by first | omega | (simp; done) | (simp; omega))))), Z, Bk.new _ _ _, HZ.out, fun j hj => absurd hj (by omega)⟩
  case round =>
    obtain ⟨k, hk, rfl, hb, cs, hB, hcs, hcell⟩ := hrel
    clear hmk
    have HB := hide (And.intro hB (And.intro hcs hcell))
    have Hb := hide hb
    by_cases hlt : k < l.length
    · obtain ⟨g, off, rfl, hg, hc⟩ := hr.elem ComT.cells_len hlt
      have g0 : wr.cell? ⟨g, off + k * 3, none⟩ = some (.int .i64 l[k].a) := (hb.cell (p := ⟨g, off + k * 3, none⟩) hg).trans (hc 0 _ rfl)
      have g1 : wr.cell? ⟨g, off + k * 3 + 1, none⟩ = some (.int .i64 l[k].b) := (hb.cell (p := ⟨g, off + k * 3 + 1, none⟩) hg).trans (hc 1 _ rfl)
      have g2 : wr.cell? ⟨g, off + k * 3 + 2, none⟩ = some (.int .i64 l[k].diff) := (hb.cell (p := ⟨g, off + k * 3 + 2, none⟩) hg).trans (hc 2 _ rfl)
      have hz := hB.lt
      have hkk : k * 3 + 3 ≤ cs.size := by have := Nat.mul_le_mul_right 3 (show k + 1 ≤ l.length from hlt); rw [Nat.add_mul] at this; omega
      obtain ⟨o0, e0⟩ := hB.some_ (i := k * 3) (by omega)
      have q0 := hB.frozen (k * 3)
      obtain ⟨o1, e1⟩ := hB.some_ (i := k * 3 + 1) (by omega)
      have q1 := hB.frozen (k * 3 + 1)
      obtain ⟨o2, e2⟩ := hB.some_ (i := k * 3 + 2) (by omega)
      have q2 := hB.frozen (k * 3 + 2)
      clear hB hcs hcell hc hr hb hkk
      go_wp2_with (go_at_call 30; refine (toCommon_any _ _ _ _).mono ?_; rintro e w1 ⟨rfl, hb1⟩; obtain ⟨hcb, hfb⟩ := bcell hb1)
      go_roundw
      case rel =>
        have hb1 : Below wr.heap.size wr w1 := by assumption
        obtain ⟨hB, hcs, hcell⟩ := HB.out
        have hB1 := hB.below hb1 hz
        have hb := Hb.out
        refine ⟨k + 1, by omega, by go_num, ?_, putAll cs (k * 3) (ComT.cells l[k]), ?_, by rw [putAll_size]; exact hcs, put_next ComT.cells_len hlt hcs hcell⟩
        · repeat (first | exact Below.refl _ _ | assumption | refine Below.drew ?_ | refine below_drewN ?_ _ | refine Below.alloc ?_ (by first | omega | (simp; done) | (simp; omega)) _ | refine Below.setCell ?_ (by first | omega | (simp; done) | (simp; omega)) _ | refine Below.trans ?_ (Below.mono (by assumption) (by first | omega | (simp; done) | (simp; omega))))
        · exact (((hB1.set_ _ _).set_ _ _).set_ _ _)
      case measure => simp [intOf]; omega
    · obtain rfl : k = l.length := by omega
      clear hB hcs hcell hr hb
      go_wp2
      go_ret
      obtain ⟨hB, hcs, hcell⟩ := HB.out
      exact ⟨rfl, Hb.out, (put_all ComT.cells_len hcs hcell) ▸ hB⟩
set_option maxHeartbeats 1000000 in
theorem eqCommonS_same (A A' : Option Addr) (c c' : Nat) (l : List ComT) (w : World) (hn : l.length ≤ 1048576) (hr : Rd w w.heap.size 3 A l.length (l.flatMap ComT.cells)) (hr' : Rd w w.heap.size 3 A' l.length (l.flatMap ComT.cells)) :
    Calls Try.prog 15 #[.slice A l.length c, .slice A' l.length c'] w fun e w' => e = .returned (.bool true) ∧ Below w.heap.size w w' := by
  go_enter Try.func15, Try.ntmps15
  go_wp2_with fail
  go_loopw [5] (fun i wr => ∃ k : Nat, k ≤ l.length ∧ i = .int .i64 k ∧ Below w.heap.size w wr) (fun i _ => l.length - (intOf i).toNat)
  case atStart => exact ⟨0, by omega, rfl, (by repeat (first | exact Below.refl _ _ | assumption | refine Below.drew ?_ | refine below_drewN ?_ _ | refine Below.alloc ?_ (by first | omega | (simp; done) | (simp; omega)) _ | refine Below.setCell ?_ (by first | omega | (simp; done) | (simp; omega)) _ | refine Below.trans ?_ (Below.mono (by assumption) (by first | omega | (simp; done) | (simp; omega)))))⟩
  case round =>
    obtain ⟨k, hk, rfl, hb⟩ := hrel
    have Hb := hide hb
    by_cases hlt : k < l.length
    · obtain ⟨g, off, rfl, hg, hc⟩ := hr.elem ComT.cells_len hlt
      obtain ⟨g', off', rfl, hg', hc'⟩ := hr'.elem ComT.cells_len hlt
      have f0 : wr.cell? ⟨g, off + k * 3, none⟩ = some (.int .i64 l[k].a) := (hb.cell (p := ⟨g, off + k * 3, none⟩) hg).trans (hc 0 _ rfl)
      have h0 : wr.cell? ⟨g', off' + k * 3, none⟩ = some (.int .i64 l[k].a) := (hb.cell (p := ⟨g', off' + k * 3, none⟩) hg').trans (hc' 0 _ rfl)
      have f1 : wr.cell? ⟨g, off + k * 3 + 1, none⟩ = some (.int .i64 l[k].b) := (hb.cell (p := ⟨g, off + k * 3 + 1, none⟩) hg).trans (hc 1 _ rfl)
      have h1 : wr.cell? ⟨g', off' + k * 3 + 1, none⟩ = some (.int .i64 l[k].b) := (hb.cell (p := ⟨g', off' + k * 3 + 1, none⟩) hg').trans (hc' 1 _ rfl)
      have f2 : wr.cell? ⟨g, off + k * 3 + 2, none⟩ = some (.int .i64 l[k].diff) := (hb.cell (p := ⟨g, off + k * 3 + 2, none⟩) hg).trans (hc 2 _ rfl)
      have h2 : wr.cell? ⟨g', off' + k * 3 + 2, none⟩ = some (.int .i64 l[k].diff) := (hb.cell (p := ⟨g', off' + k * 3 + 2, none⟩) hg').trans (hc' 2 _ rfl)
      have hz1 : g < wr.heap.size := by have := hb.size; omega
      have hz2 : g' < wr.heap.size := by have := hb.size; omega
      have i1 : (0 : Int) ≤ (k : Int) := by omega
      have i2 : (k : Int) < (l.length : Int) := by omega
      clear hc hc' hr hr' hb
      go_wp2_with fail
      go_region_held3 (fun w' => w'.cell? ⟨g, off + k * 3, none⟩ = some (.int .i64 l[k].a) ∧ w'.cell? ⟨g, off + k * 3 + 1, none⟩ = some (.int .i64 l[k].b) ∧ w'.cell? ⟨g, off + k * 3 + 2, none⟩ = some (.int .i64 l[k].diff) ∧ w'.cell? ⟨g', off' + k * 3, none⟩ = some (.int .i64 l[k].a) ∧ w'.cell? ⟨g', off' + k * 3 + 1, none⟩ = some (.int .i64 l[k].b) ∧ w'.cell? ⟨g', off' + k * 3 + 2, none⟩ = some (.int .i64 l[k].diff)) (go_keep)
        (first | (go_at_call 35; refine (eqCommon_same _ _ _ _).mono ?_; rintro e w1 ⟨rfl, hb1⟩; have d0 := (hb1.cell (p := ⟨g, off + k * 3, none⟩) hz1).trans f0; have d1 := (hb1.cell (p := ⟨g, off + k * 3 + 1, none⟩) hz1).trans f1; have d2 := (hb1.cell (p := ⟨g, off + k * 3 + 2, none⟩) hz1).trans f2; have e0 := (hb1.cell (p := ⟨g', off' + k * 3, none⟩) hz2).trans h0; have e1 := (hb1.cell (p := ⟨g', off' + k * 3 + 1, none⟩) hz2).trans h1; have e2 := (hb1.cell (p := ⟨g', off' + k * 3 + 2, none⟩) hz2).trans h2))
      go_wp2
      go_roundw
      case rel =>
        have hb1 : Below wr.drew.heap.size wr.drew w1 := by assumption
        exact ⟨k + 1, by omega, by go_num, Hb.out.drew.trans (hb1.mono Hb.out.size)⟩
      case measure => simp [intOf]; omega
    · obtain rfl : k = l.length := by omega
      clear hr hr' hb
      go_wp2
      go_ret
      exact ⟨rfl, Hb.out⟩
theorem szCommonS_any (A : Option Addr) (c : Nat) (l : List ComT) (left : Int) (w : World) (h : 0 ≤ left) (k : left ≤ 1048576) (hl : l.length ≤ maxLen) : Calls Try.prog 11 #[.slice A l.length c, .int .i64 left] w (SzPost left l.length w) := by
  unfold maxLen at hl
  by_cases c1 : left - (l.length : Int) < 0
  all_goals
    go_enter Try.func11, Try.ntmps11
    go_wp2
    go_ret
    exact ⟨_, rfl, by omega, (by repeat (first | exact Below.refl _ _ | assumption | refine Below.drew ?_ | refine below_drewN ?_ _ | refine Below.alloc ?_ (by first | omega | (simp; done) | (simp; omega)) _ | refine Below.setCell ?_ (by first | omega | (simp; done) | (simp; omega)) _ | refine Below.trans ?_ (Below.mono (by assumption) (by first | omega | (simp; done) | (simp; omega)))))⟩
theorem recCommon_end : True := trivial
end Go.Proofs.Ytdbfebhmldbdbaa
