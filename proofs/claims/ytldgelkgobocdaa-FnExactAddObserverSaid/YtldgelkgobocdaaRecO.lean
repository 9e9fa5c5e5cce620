/-
  Contracts of the laws' helpers on lists: copies, comparisons of equal lists, sizes.
-/
import Derived.Test.YtldgelkgobocdaaChecked
import Derived.Test.YtldgelkgobocdaaRec
import Derived.WalkKit
import Derived.Deep.QuietTactic
import Derived.BigQuiet
import Derived.Deep.RegionHeld3
namespace Go.Proofs.Ytldgelkgobocdaa
open Go.RowKit
set_option linter.unusedVariables false
set_option linter.unusedSimpArgs false
theorem info_Observer : (Try.prog.info? 77).map (fun i => (i.zero, i.size, i.bytes)) = some (some (.agg #[.string ⟨#[]⟩, .int .i64 0]), 2, 24) := by kernel_rfl
theorem toObserver_any (a0 : ByteArray) (a1 : Int) (w : World) : Calls Try.prog 55 #[.agg #[.string a0, .int .i64 a1]] w fun e w' => e = .returned (.agg #[.string a0, .int .i64 a1]) ∧ Below w.heap.size w w' := by
  go_enter Try.func55, Try.ntmps55
  go_wp2
  exact bodyPost_ret (v := .agg #[.string a0, .int .i64 a1]) (by simp [results, Try.results55, go_sem]) rfl ⟨rfl, (by repeat (first | exact Below.refl _ _ | assumption | refine Below.drew ?_ | refine below_drewN ?_ _ | refine Below.alloc ?_ (by first | omega | (simp; done) | (simp; omega)) _ | refine Below.setCell ?_ (by first | omega | (simp; done) | (simp; omega)) _ | refine Below.trans ?_ (Below.mono (by assumption) (by first | omega | (simp; done) | (simp; omega)))))⟩
theorem eqObserver_same (a0 : ByteArray) (a1 : Int) (w : World) : Calls Try.prog 68 #[.agg #[.string a0, .int .i64 a1], .agg #[.string a0, .int .i64 a1]] w fun e w' => e = .returned (.bool true) ∧ Below w.heap.size w w' := by
  go_enter Try.func68, Try.ntmps68
  go_wp2
  go_ret
  exact ⟨rfl, (by repeat (first | exact Below.refl _ _ | assumption | refine Below.drew ?_ | refine below_drewN ?_ _ | refine Below.alloc ?_ (by first | omega | (simp; done) | (simp; omega)) _ | refine Below.setCell ?_ (by first | omega | (simp; done) | (simp; omega)) _ | refine Below.trans ?_ (Below.mono (by assumption) (by first | omega | (simp; done) | (simp; omega)))))⟩
set_option maxHeartbeats 1000000 in
theorem toObserverS_any (A : Option Addr) (c : Nat) (l : List ObsT) (w : World) (hn : l.length ≤ 1048576) (hr : Rd w w.heap.size 2 A l.length (l.flatMap ObsT.cells)) :
    Calls Try.prog 17 #[.slice A l.length c] w fun e w' => e = .returned (.slice (some ⟨w.heap.size, 0, none⟩) l.length l.length) ∧ Below w.heap.size w w' ∧ Bk w' w.heap.size 77 (l.flatMap ObsT.cells).toArray := by
  obtain ⟨i0, hi, hz0, hz1, hz2⟩ := info_parts info_Observer
  go_enter Try.func17, Try.ntmps17
  obtain ⟨Z, hZ, hmk⟩ := mk_rows Try.underlying26 hi hz0 hz1 hz2 l.length (by omega) (by omega)
  have HZ := hide hZ
  clear hi hz0 hz1 hz2 hZ
  go_wp2_with fail
  go_loopw [4] (fun i wr => ∃ k : Nat, k ≤ l.length ∧ i = .int .i64 k ∧ Below w.heap.size w wr ∧ ∃ cs : Array Value, Bk wr w.heap.size 77 cs ∧ cs.size = l.length * 2 ∧ ∀ j, j < k * 2 → cs[j]? = (l.flatMap ObsT.cells)[j]?) (fun i _ => l.length - (intOf i).toNat)
  case atStart => exact ⟨0, by omega, rfl, (by repeat (first | exact Below.refl _ _ | assumption | refine Below.drew ?_ | refine below_drewN ?_ _ | refine Below.alloc ?_ (by first | omega | (simp; done) | (simp; omega)) _ | refine Below.setCell ?_ (by first | omega | (simp; done) | (simp; omega)) _ | refine Below.trans ?_ (Below.mono (by assumption) (by first | omega | (simp; done) | (simp; omega))))), Z, Bk.new _ _ _, HZ.out, fun j hj => absurd hj (by omega)⟩
  case round =>
    obtain ⟨k, hk, rfl, hb, cs, hB, hcs, hcell⟩ := hrel
    clear hmk
    have HB := hide (And.intro hB (And.intro hcs hcell))
    have Hb := hide hb
    by_cases hlt : k < l.length
    · obtain ⟨g, off, rfl, hg, hc⟩ := hr.elem ObsT.cells_len hlt
      have g0 : wr.cell? ⟨g, off + k * 2, none⟩ = some (.string l[k].name) := (hb.cell (p := ⟨g, off + k * 2, none⟩) hg).trans (hc 0 _ rfl)
      have g1 : wr.cell? ⟨g, off + k * 2 + 1, none⟩ = some (.int .i64 l[k].shift) := (hb.cell (p := ⟨g, off + k * 2 + 1, none⟩) hg).trans (hc 1 _ rfl)
      have hz := hB.lt
      have hkk : k * 2 + 2 ≤ cs.size := by have := Nat.mul_le_mul_right 2 (show k + 1 ≤ l.length from hlt); rw [Nat.add_mul] at this; omega
      obtain ⟨o0, e0⟩ := hB.some_ (i := k * 2) (by omega)
      have q0 := hB.frozen (k * 2)
      obtain ⟨o1, e1⟩ := hB.some_ (i := k * 2 + 1) (by omega)
      have q1 := hB.frozen (k * 2 + 1)
      clear hB hcs hcell hc hr hb hkk
      go_wp2_with (go_at_call 55; refine (toObserver_any _ _ _).mono ?_; rintro e w1 ⟨rfl, hb1⟩; obtain ⟨hcb, hfb⟩ := bcell hb1)
      go_roundw
      case rel =>
        have hb1 : Below wr.heap.size wr w1 := by assumption
        obtain ⟨hB, hcs, hcell⟩ := HB.out
        have hB1 := hB.below hb1 hz
        have hb := Hb.out
        refine ⟨k + 1, by omega, by go_num, ?_, putAll cs (k * 2) (ObsT.cells l[k]), ?_, by rw [putAll_size]; exact hcs, put_next ObsT.cells_len hlt hcs hcell⟩
        · repeat (first | exact Below.refl _ _ | assumption | refine Below.drew ?_ | refine below_drewN ?_ _ | refine Below.alloc ?_ (by first | omega | (simp; done) | (simp; omega)) _ | refine Below.setCell ?_ (by first | omega | (simp; done) | (simp; omega)) _ | refine Below.trans ?_ (Below.mono (by assumption) (by first | omega | (simp; done) | (simp; omega))))
        · exact ((hB1.set_ _ _).set_ _ _)
      case measure => simp [intOf]; omega
    · obtain rfl : k = l.length := by omega
      clear hB hcs hcell hr hb
      go_wp2
      go_ret
      obtain ⟨hB, hcs, hcell⟩ := HB.out
      exact ⟨rfl, Hb.out, (put_all ObsT.cells_len hcs hcell) ▸ hB⟩
set_option maxHeartbeats 1000000 in
theorem eqObserverS_same (A A' : Option Addr) (c c' : Nat) (l : List ObsT) (w : World) (hn : l.length ≤ 1048576) (hr : Rd w w.heap.size 2 A l.length (l.flatMap ObsT.cells)) (hr' : Rd w w.heap.size 2 A' l.length (l.flatMap ObsT.cells)) :
    Calls Try.prog 19 #[.slice A l.length c, .slice A' l.length c'] w fun e w' => e = .returned (.bool true) ∧ Below w.heap.size w w' := by
  go_enter Try.func19, Try.ntmps19
  go_wp2_with fail
  go_loopw [5] (fun i wr => ∃ k : Nat, k ≤ l.length ∧ i = .int .i64 k ∧ Below w.heap.size w wr) (fun i _ => l.length - (intOf i).toNat)
  case atStart => exact ⟨0, by omega, rfl, (by repeat (first | exact Below.refl _ _ | assumption | refine Below.drew ?_ | refine below_drewN ?_ _ | refine Below.alloc ?_ (by first | omega | (simp; done) | (simp; omega)) _ | refine Below.setCell ?_ (by first | omega | (simp; done) | (simp; omega)) _ | refine Below.trans ?_ (Below.mono (by assumption) (by first | omega | (simp; done) | (simp; omega)))))⟩
  case round =>
    obtain ⟨k, hk, rfl, hb⟩ := hrel
    have Hb := hide hb
    by_cases hlt : k < l.length
    · obtain ⟨g, off, rfl, hg, hc⟩ := hr.elem ObsT.cells_len hlt
      obtain ⟨g', off', rfl, hg', hc'⟩ := hr'.elem ObsT.cells_len hlt
      have f0 : wr.cell? ⟨g, off + k * 2, none⟩ = some (.string l[k].name) := (hb.cell (p := ⟨g, off + k * 2, none⟩) hg).trans (hc 0 _ rfl)
      have h0 : wr.cell? ⟨g', off' + k * 2, none⟩ = some (.string l[k].name) := (hb.cell (p := ⟨g', off' + k * 2, none⟩) hg').trans (hc' 0 _ rfl)
      have f1 : wr.cell? ⟨g, off + k * 2 + 1, none⟩ = some (.int .i64 l[k].shift) := (hb.cell (p := ⟨g, off + k * 2 + 1, none⟩) hg).trans (hc 1 _ rfl)
      have h1 : wr.cell? ⟨g', off' + k * 2 + 1, none⟩ = some (.int .i64 l[k].shift) := (hb.cell (p := ⟨g', off' + k * 2 + 1, none⟩) hg').trans (hc' 1 _ rfl)
      have hz1 : g < wr.heap.size := by have := hb.size; omega
      have hz2 : g' < wr.heap.size := by have := hb.size; omega
      have i1 : (0 : Int) ≤ (k : Int) := by omega
      have i2 : (k : Int) < (l.length : Int) := by omega
      clear hc hc' hr hr' hb
      go_wp2_with fail
      go_region_held3 (fun w' => w'.cell? ⟨g, off + k * 2, none⟩ = some (.string l[k].name) ∧ w'.cell? ⟨g, off + k * 2 + 1, none⟩ = some (.int .i64 l[k].shift) ∧ w'.cell? ⟨g', off' + k * 2, none⟩ = some (.string l[k].name) ∧ w'.cell? ⟨g', off' + k * 2 + 1, none⟩ = some (.int .i64 l[k].shift)) (go_keep)
        (first | (go_at_call 68; refine (eqObserver_same _ _ _).mono ?_; rintro e w1 ⟨rfl, hb1⟩; have d0 := (hb1.cell (p := ⟨g, off + k * 2, none⟩) hz1).trans f0; have d1 := (hb1.cell (p := ⟨g, off + k * 2 + 1, none⟩) hz1).trans f1; have e0 := (hb1.cell (p := ⟨g', off' + k * 2, none⟩) hz2).trans h0; have e1 := (hb1.cell (p := ⟨g', off' + k * 2 + 1, none⟩) hz2).trans h1))
      go_wp2
      go_roundw
      case rel =>
        have hb1 : Below wr.drew.heap.size wr.drew w1 := by assumption
        exact ⟨k + 1, by omega, by go_num, Hb.out.drew.trans (hb1.mono Hb.out.size)⟩
      case measure => simp [intOf]; omega
    · obtain rfl : k = l.length := by omega
      clear hr hr' hb
      go_wp2
      go_ret
      exact ⟨rfl, Hb.out⟩
theorem szObserver_any (a0 : ByteArray) (a1 : Int) (left : Int) (w : World) (h : 0 ≤ left) (k : left ≤ 1048576) (h0 : okS a0) : Calls Try.prog 53 #[.agg #[.string a0, .int .i64 a1], .int .i64 left] w (SzPost left 0 w) := by
  unfold okS maxLen at h0
  by_cases c1 : left - (a0.size : Int) < 0
  · go_enter Try.func53, Try.ntmps53
    go_wp2
    go_ret
    exact ⟨_, rfl, by omega, (by repeat (first | exact Below.refl _ _ | assumption | refine Below.drew ?_ | refine below_drewN ?_ _ | refine Below.alloc ?_ (by first | omega | (simp; done) | (simp; omega)) _ | refine Below.setCell ?_ (by first | omega | (simp; done) | (simp; omega)) _ | refine Below.trans ?_ (Below.mono (by assumption) (by first | omega | (simp; done) | (simp; omega)))))⟩
  · go_enter Try.func53, Try.ntmps53
    go_wp2
    go_ret
    exact ⟨_, rfl, by omega, (by repeat (first | exact Below.refl _ _ | assumption | refine Below.drew ?_ | refine below_drewN ?_ _ | refine Below.alloc ?_ (by first | omega | (simp; done) | (simp; omega)) _ | refine Below.setCell ?_ (by first | omega | (simp; done) | (simp; omega)) _ | refine Below.trans ?_ (Below.mono (by assumption) (by first | omega | (simp; done) | (simp; omega)))))⟩
set_option maxHeartbeats 1000000 in
theorem szObserverS_any (A : Option Addr) (c : Nat) (l : List ObsT) (left : Int) (w : World) (h : 0 ≤ left) (k : left ≤ 1048576) (hl : l.length ≤ maxLen) (hr : Rd w w.heap.size 2 A l.length (l.flatMap ObsT.cells)) (hok : ∀ x ∈ l, x.ok) :
    Calls Try.prog 15 #[.slice A l.length c, .int .i64 left] w (SzPost left l.length w) := by
  unfold maxLen at hl
  have HO := hide hok
  clear hok
  by_cases c1 : left - (l.length : Int) < 0
  · clear hr
    go_enter Try.func15, Try.ntmps15
    go_wp2
    go_ret
    exact ⟨_, rfl, by omega, (by repeat (first | exact Below.refl _ _ | assumption | refine Below.drew ?_ | refine below_drewN ?_ _ | refine Below.alloc ?_ (by first | omega | (simp; done) | (simp; omega)) _ | refine Below.setCell ?_ (by first | omega | (simp; done) | (simp; omega)) _ | refine Below.trans ?_ (Below.mono (by assumption) (by first | omega | (simp; done) | (simp; omega)))))⟩
  go_enter Try.func15, Try.ntmps15
  go_wp2_with fail
  go_loopw [1, 5] (fun t i wr => ∃ (k : Nat) (r : Int), k ≤ l.length ∧ i = .int .i64 k ∧ t = .int .i64 r ∧ 0 ≤ r ∧ r ≤ left - (l.length : Int) ∧ Below w.heap.size w wr) (fun _ i _ => l.length - (intOf i).toNat)
  case atStart => exact ⟨0, _, by omega, rfl, rfl, by omega, by omega, (by repeat (first | exact Below.refl _ _ | assumption | refine Below.drew ?_ | refine below_drewN ?_ _ | refine Below.alloc ?_ (by first | omega | (simp; done) | (simp; omega)) _ | refine Below.setCell ?_ (by first | omega | (simp; done) | (simp; omega)) _ | refine Below.trans ?_ (Below.mono (by assumption) (by first | omega | (simp; done) | (simp; omega)))))⟩
  case round =>
    obtain ⟨k, r, hk, rfl, rfl, r1, r2, hb⟩ := hrel
    have Hb := hide hb
    by_cases hlt : k < l.length
    · obtain ⟨g, off, rfl, hg, hc⟩ := hr.elem ObsT.cells_len hlt
      have f0 : wr.cell? ⟨g, off + k * 2, none⟩ = some (.string l[k].name) := (hb.cell (p := ⟨g, off + k * 2, none⟩) hg).trans (hc 0 _ rfl)
      have f1 : wr.cell? ⟨g, off + k * 2 + 1, none⟩ = some (.int .i64 l[k].shift) := (hb.cell (p := ⟨g, off + k * 2 + 1, none⟩) hg).trans (hc 1 _ rfl)
      have ho := HO.out l[k] (List.getElem_mem _)
      have HX := hide ho
      clear hc hr hb ho
      go_wp2_with fail
      refine (szObserver_any _ _ _ _ (by omega) (by omega) (by have ho := HX.out; exact ho.1)).mono ?_
      rintro e w1 ⟨r', rfl, hr', hb1⟩
      rcases hr' with rfl | ⟨r3, r4⟩
      · go_wp2
        go_ret
        exact ⟨_, rfl, by omega, Hb.out.trans (hb1.mono Hb.out.size)⟩
      · go_wp2
        go_roundw
        case rel => exact ⟨k + 1, r', by omega, by go_num, rfl, by omega, by omega, Hb.out.trans (hb1.mono Hb.out.size)⟩
        case measure => simp [intOf]; omega
    · obtain rfl : k = l.length := by omega
      clear hr hb
      go_wp2
      go_ret
      exact ⟨r, rfl, by omega, Hb.out⟩
theorem recObserver_end : True := trivial
end Go.Proofs.Ytldgelkgobocdaa
