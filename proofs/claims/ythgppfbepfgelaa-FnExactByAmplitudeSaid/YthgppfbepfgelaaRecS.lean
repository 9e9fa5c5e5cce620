/-
  Contracts of the laws' helpers on lists: copies, comparisons of equal lists, sizes.
-/
import Derived.Test.YthgppfbepfgelaaChecked
import Derived.Test.YthgppfbepfgelaaRec
import Derived.WalkKit
import Derived.Deep.QuietTactic
import Derived.BigQuiet
import Derived.Deep.RegionHeld3
namespace Go.Proofs.Ythgppfbepfgelaa
open Go.RowKit
set_option linter.unusedVariables false
set_option linter.unusedSimpArgs false
theorem info_Star : (Try.prog.info? 38).map (fun i => (i.zero, i.size, i.bytes)) = some (some (.agg #[.string ⟨#[]⟩, .int .i64 0, .int .i64 0, .int .i64 0, .int .i64 0]), 5, 48) := by kernel_rfl
theorem toStar_any (a0 : ByteArray) (a1 : Int) (a2 : Int) (a3 : Int) (a4 : Int) (w : World) : Calls Try.prog 16 #[.agg #[.string a0, .int .i64 a1, .int .i64 a2, .int .i64 a3, .int .i64 a4]] w fun e w' => e = .returned (.agg #[.string a0, .int .i64 a1, .int .i64 a2, .int .i64 a3, .int .i64 a4]) ∧ Below w.heap.size w w' := by
  go_enter Try.func16, Try.ntmps16
  go_wp2
  exact bodyPost_ret (v := .agg #[.string a0, .int .i64 a1, .int .i64 a2, .int .i64 a3, .int .i64 a4]) (by simp [results, Try.results16, go_sem]) rfl ⟨rfl, (by repeat (first | exact Below.refl _ _ | assumption | refine Below.drew ?_ | refine below_drewN ?_ _ | refine Below.alloc ?_ (by first | omega | (simp; done) | (simp; omega)) _ | refine Below.setCell ?_ (by first | omega | (simp; done) | (simp; omega)) _ | refine Below.trans ?_ (Below.mono (by assumption) (by first | omega | (simp; done) | (simp; omega)))))⟩
theorem eqStar_same (a0 : ByteArray) (a1 : Int) (a2 : Int) (a3 : Int) (a4 : Int) (w : World) : Calls Try.prog 20 #[.agg #[.string a0, .int .i64 a1, .int .i64 a2, .int .i64 a3, .int .i64 a4], .agg #[.string a0, .int .i64 a1, .int .i64 a2, .int .i64 a3, .int .i64 a4]] w fun e w' => e = .returned (.bool true) ∧ Below w.heap.size w w' := by
  go_enter Try.func20, Try.ntmps20
  go_wp2
  go_ret
  exact ⟨rfl, (by repeat (first | exact Below.refl _ _ | assumption | refine Below.drew ?_ | refine below_drewN ?_ _ | refine Below.alloc ?_ (by first | omega | (simp; done) | (simp; omega)) _ | refine Below.setCell ?_ (by first | omega | (simp; done) | (simp; omega)) _ | refine Below.trans ?_ (Below.mono (by assumption) (by first | omega | (simp; done) | (simp; omega)))))⟩
set_option maxHeartbeats 1000000 in
theorem toStarS_any (A : Option Addr) (c : Nat) (l : List StarT) (w : World) (hn : l.length ≤ 1048576) (hr : Rd w w.heap.size 5 A l.length (l.flatMap StarT.cells)) :
    Calls Try.prog 6 #[.slice A l.length c] w fun e w' => e = .returned (.slice (some ⟨w.heap.size, 0, none⟩) l.length l.length) ∧ Below w.heap.size w w' ∧ Bk w' w.heap.size 38 (l.flatMap StarT.cells).toArray := by
  obtain ⟨i0, hi, hz0, hz1, hz2⟩ := info_parts info_Star
  go_enter Try.func6, Try.ntmps6
  obtain ⟨Z, hZ, hmk⟩ := mk_rows Try.underlying27 hi hz0 hz1 hz2 l.length (by omega) (by omega)
  have HZ := hide hZ
  clear hi hz0 hz1 hz2 hZ
  go_wp2_with fail
  go_loopw [4] (fun i wr => ∃ k : Nat, k ≤ l.length ∧ i = .int .i64 k ∧ Below w.heap.size w wr ∧ ∃ cs : Array Value, Bk wr w.heap.size 38 cs ∧ cs.size = l.length * 5 ∧ ∀ j, j < k * 5 → cs[j]? = (l.flatMap StarT.cells)[j]?) (fun i _ => l.length - (intOf i).toNat)
  case atStart => exact ⟨0, by omega, rfl, (by repeat (first | exact Below.refl _ _ | assumption | refine Below.drew ?_ | refine below_drewN ?_ _ | refine Below.alloc ?_ (by first | omega | (simp; done) | (simp; omega)) _ | refine Below.setCell ?_ (by first | omega | (simp; done) | (simp; omega)) _ | refine Below.trans ?_ (Below.mono (by assumption) (by first | omega | (simp; done) | (simp; omega))))), Z, Bk.new _ _ _, HZ.out, fun j hj => absurd hj (by omega)⟩
  case round =>
    obtain ⟨k, hk, rfl, hb, cs, hB, hcs, hcell⟩ := hrel
    clear hmk
    have HB := hide (And.intro hB (And.intro hcs hcell))
    have Hb := hide hb
    by_cases hlt : k < l.length
    · obtain ⟨g, off, rfl, hg, hc⟩ := hr.elem StarT.cells_len hlt
      have g0 : wr.cell? ⟨g, off + k * 5, none⟩ = some (.string l[k].name) := (hb.cell (p := ⟨g, off + k * 5, none⟩) hg).trans (hc 0 _ rfl)
      have g1 : wr.cell? ⟨g, off + k * 5 + 1, none⟩ = some (.int .i64 l[k].asc) := (hb.cell (p := ⟨g, off + k * 5 + 1, none⟩) hg).trans (hc 1 _ rfl)
      have g2 : wr.cell? ⟨g, off + k * 5 + 2, none⟩ = some (.int .i64 l[k].dec) := (hb.cell (p := ⟨g, off + k * 5 + 2, none⟩) hg).trans (hc 2 _ rfl)
      have g3 : wr.cell? ⟨g, off + k * 5 + 3, none⟩ = some (.int .i64 l[k].bri) := (hb.cell (p := ⟨g, off + k * 5 + 3, none⟩) hg).trans (hc 3 _ rfl)
      have g4 : wr.cell? ⟨g, off + k * 5 + 4, none⟩ = some (.int .i64 l[k].fai) := (hb.cell (p := ⟨g, off + k * 5 + 4, none⟩) hg).trans (hc 4 _ rfl)
      have hz := hB.lt
      have hkk : k * 5 + 5 ≤ cs.size := by have := Nat.mul_le_mul_right 5 (show k + 1 ≤ l.length from hlt); rw [Nat.add_mul] at this; omega
      obtain ⟨o0, e0⟩ := hB.some_ (i := k * 5) (by omega)
      have q0 := hB.frozen (k * 5)
      obtain ⟨o1, e1⟩ := hB.some_ (i := k * 5 + 1) (by omega)
      have q1 := hB.frozen (k * 5 + 1)
      obtain ⟨o2, e2⟩ := hB.some_ (i := k * 5 + 2) (by omega)
      have q2 := hB.frozen (k * 5 + 2)
      obtain ⟨o3, e3⟩ := hB.some_ (i := k * 5 + 3) (by omega)
      have q3 := hB.frozen (k * 5 + 3)
      obtain ⟨o4, e4⟩ := hB.some_ (i := k * 5 + 4) (by omega)
      have q4 := hB.frozen (k * 5 + 4)
      clear hB hcs hcell hc hr hb hkk
      go_wp2_with (go_at_call 16; refine (toStar_any _ _ _ _ _ _).mono ?_; rintro e w1 ⟨rfl, hb1⟩; obtain ⟨hcb, hfb⟩ := bcell hb1)
      go_roundw
      case rel =>
        have hb1 : Below wr.heap.size wr w1 := by assumption
        obtain ⟨hB, hcs, hcell⟩ := HB.out
        have hB1 := hB.below hb1 hz
        have hb := Hb.out
        refine ⟨k + 1, by omega, by go_num, ?_, putAll cs (k * 5) (StarT.cells l[k]), ?_, by rw [putAll_size]; exact hcs, put_next StarT.cells_len hlt hcs hcell⟩
        · repeat (first | exact Below.refl _ _ | assumption | refine Below.drew ?_ | refine below_drewN ?_ _ | refine Below.alloc ?_ (by first | omega | (simp; done) | (simp; omega)) _ | refine Below.setCell ?_ (by first | omega | (simp; done) | (simp; omega)) _ | refine Below.trans ?_ (Below.mono (by assumption) (by first | omega | (simp; done) | (simp; omega))))
        · exact (((((hB1.set_ _ _).set_ _ _).set_ _ _).set_ _ _).set_ _ _)
      case measure => simp [intOf]; omega
    · obtain rfl : k = l.length := by omega
      clear hB hcs hcell hr hb
      go_wp2
      go_ret
      obtain ⟨hB, hcs, hcell⟩ := HB.out
      exact ⟨rfl, Hb.out, (put_all StarT.cells_len hcs hcell) ▸ hB⟩
set_option maxHeartbeats 1000000 in
theorem eqStarS_same (A A' : Option Addr) (c c' : Nat) (l : List StarT) (w : World) (hn : l.length ≤ 1048576) (hr : Rd w w.heap.size 5 A l.length (l.flatMap StarT.cells)) (hr' : Rd w w.heap.size 5 A' l.length (l.flatMap StarT.cells)) :
    Calls Try.prog 9 #[.slice A l.length c, .slice A' l.length c'] w fun e w' => e = .returned (.bool true) ∧ Below w.heap.size w w' := by
  go_enter Try.func9, Try.ntmps9
  go_wp2_with fail
  go_loopw [5] (fun i wr => ∃ k : Nat, k ≤ l.length ∧ i = .int .i64 k ∧ Below w.heap.size w wr) (fun i _ => l.length - (intOf i).toNat)
  case atStart => exact ⟨0, by omega, rfl, (by repeat (first | exact Below.refl _ _ | assumption | refine Below.drew ?_ | refine below_drewN ?_ _ | refine Below.alloc ?_ (by first | omega | (simp; done) | (simp; omega)) _ | refine Below.setCell ?_ (by first | omega | (simp; done) | (simp; omega)) _ | refine Below.trans ?_ (Below.mono (by assumption) (by first | omega | (simp; done) | (simp; omega)))))⟩
  case round =>
    obtain ⟨k, hk, rfl, hb⟩ := hrel
    have Hb := hide hb
    by_cases hlt : k < l.length
    · obtain ⟨g, off, rfl, hg, hc⟩ := hr.elem StarT.cells_len hlt
      obtain ⟨g', off', rfl, hg', hc'⟩ := hr'.elem StarT.cells_len hlt
      have f0 : wr.cell? ⟨g, off + k * 5, none⟩ = some (.string l[k].name) := (hb.cell (p := ⟨g, off + k * 5, none⟩) hg).trans (hc 0 _ rfl)
      have h0 : wr.cell? ⟨g', off' + k * 5, none⟩ = some (.string l[k].name) := (hb.cell (p := ⟨g', off' + k * 5, none⟩) hg').trans (hc' 0 _ rfl)
      have f1 : wr.cell? ⟨g, off + k * 5 + 1, none⟩ = some (.int .i64 l[k].asc) := (hb.cell (p := ⟨g, off + k * 5 + 1, none⟩) hg).trans (hc 1 _ rfl)
      have h1 : wr.cell? ⟨g', off' + k * 5 + 1, none⟩ = some (.int .i64 l[k].asc) := (hb.cell (p := ⟨g', off' + k * 5 + 1, none⟩) hg').trans (hc' 1 _ rfl)
      have f2 : wr.cell? ⟨g, off + k * 5 + 2, none⟩ = some (.int .i64 l[k].dec) := (hb.cell (p := ⟨g, off + k * 5 + 2, none⟩) hg).trans (hc 2 _ rfl)
      have h2 : wr.cell? ⟨g', off' + k * 5 + 2, none⟩ = some (.int .i64 l[k].dec) := (hb.cell (p := ⟨g', off' + k * 5 + 2, none⟩) hg').trans (hc' 2 _ rfl)
      have f3 : wr.cell? ⟨g, off + k * 5 + 3, none⟩ = some (.int .i64 l[k].bri) := (hb.cell (p := ⟨g, off + k * 5 + 3, none⟩) hg).trans (hc 3 _ rfl)
      have h3 : wr.cell? ⟨g', off' + k * 5 + 3, none⟩ = some (.int .i64 l[k].bri) := (hb.cell (p := ⟨g', off' + k * 5 + 3, none⟩) hg').trans (hc' 3 _ rfl)
      have f4 : wr.cell? ⟨g, off + k * 5 + 4, none⟩ = some (.int .i64 l[k].fai) := (hb.cell (p := ⟨g, off + k * 5 + 4, none⟩) hg).trans (hc 4 _ rfl)
      have h4 : wr.cell? ⟨g', off' + k * 5 + 4, none⟩ = some (.int .i64 l[k].fai) := (hb.cell (p := ⟨g', off' + k * 5 + 4, none⟩) hg').trans (hc' 4 _ rfl)
      have hz1 : g < wr.heap.size := by have := hb.size; omega
      have hz2 : g' < wr.heap.size := by have := hb.size; omega
      have i1 : (0 : Int) ≤ (k : Int) := by omega
      have i2 : (k : Int) < (l.length : Int) := by omega
      clear hc hc' hr hr' hb
      go_wp2_with fail
      go_region_held3 (fun w' => w'.cell? ⟨g, off + k * 5, none⟩ = some (.string l[k].name) ∧ w'.cell? ⟨g, off + k * 5 + 1, none⟩ = some (.int .i64 l[k].asc) ∧ w'.cell? ⟨g, off + k * 5 + 2, none⟩ = some (.int .i64 l[k].dec) ∧ w'.cell? ⟨g, off + k * 5 + 3, none⟩ = some (.int .i64 l[k].bri) ∧ w'.cell? ⟨g, off + k * 5 + 4, none⟩ = some (.int .i64 l[k].fai) ∧ w'.cell? ⟨g', off' + k * 5, none⟩ = some (.string l[k].name) ∧ w'.cell? ⟨g', off' + k * 5 + 1, none⟩ = some (.int .i64 l[k].asc) ∧ w'.cell? ⟨g', off' + k * 5 + 2, none⟩ = some (.int .i64 l[k].dec) ∧ w'.cell? ⟨g', off' + k * 5 + 3, none⟩ = some (.int .i64 l[k].bri) ∧ w'.cell? ⟨g', off' + k * 5 + 4, none⟩ = some (.int .i64 l[k].fai)) (go_keep)
        (first | (go_at_call 20; refine (eqStar_same _ _ _ _ _ _).mono ?_; rintro e w1 ⟨rfl, hb1⟩; have d0 := (hb1.cell (p := ⟨g, off + k * 5, none⟩) hz1).trans f0; have d1 := (hb1.cell (p := ⟨g, off + k * 5 + 1, none⟩) hz1).trans f1; have d2 := (hb1.cell (p := ⟨g, off + k * 5 + 2, none⟩) hz1).trans f2; have d3 := (hb1.cell (p := ⟨g, off + k * 5 + 3, none⟩) hz1).trans f3; have d4 := (hb1.cell (p := ⟨g, off + k * 5 + 4, none⟩) hz1).trans f4; have e0 := (hb1.cell (p := ⟨g', off' + k * 5, none⟩) hz2).trans h0; have e1 := (hb1.cell (p := ⟨g', off' + k * 5 + 1, none⟩) hz2).trans h1; have e2 := (hb1.cell (p := ⟨g', off' + k * 5 + 2, none⟩) hz2).trans h2; have e3 := (hb1.cell (p := ⟨g', off' + k * 5 + 3, none⟩) hz2).trans h3; have e4 := (hb1.cell (p := ⟨g', off' + k * 5 + 4, none⟩) hz2).trans h4))
      go_wp2
      go_roundw
      case rel =>
        have hb1 : Below wr.drew.heap.size wr.drew w1 := by assumption
        exact ⟨k + 1, by omega, by go_num, Hb.out.drew.trans (hb1.mono Hb.out.size)⟩
      case measure => simp [intOf]; omega
    · obtain rfl : k = l.length := by omega
      clear hr hr' hb
      go_wp2
      go_ret
      exact ⟨rfl, Hb.out⟩
theorem szStar_any (a0 : ByteArray) (a1 : Int) (a2 : Int) (a3 : Int) (a4 : Int) (left : Int) (w : World) (h : 0 ≤ left) (k : left ≤ 1048576) (h0 : okS a0) : Calls Try.prog 13 #[.agg #[.string a0, .int .i64 a1, .int .i64 a2, .int .i64 a3, .int .i64 a4], .int .i64 left] w (SzPost left 0 w) := by
  unfold okS maxLen at h0
  by_cases c1 : left - (a0.size : Int) < 0
  · go_enter Try.func13, Try.ntmps13
    go_wp2
    go_ret
    exact ⟨_, rfl, by omega, (by repeat (first | exact Below.refl _ _ | assumption | refine Below.drew ?_ | refine below_drewN ?_ _ | refine Below.alloc ?_ (by first | omega | (simp; done) | (simp; omega)) _ | refine Below.setCell ?_ (by first | omega | (simp; done) | (simp; omega)) _ | refine Below.trans ?_ (Below.mono (by assumption) (by first | omega | (simp; done) | (simp; omega)))))⟩
  · go_enter Try.func13, Try.ntmps13
    go_wp2
    go_ret
    exact ⟨_, rfl, by omega, (by repeat (first | exact Below.refl _ _ | assumption | refine Below.drew ?_ | refine below_drewN ?_ _ | refine Below.alloc ?_ (by first | omega | (simp; done) | (simp; omega)) _ | refine Below.setCell ?_ (by first | omega | (simp; done) | (simp; omega)) _ | refine Below.trans ?_ (Below.mono (by assumption) (by first | omega | (simp; done) | (simp; omega)))))⟩
set_option maxHeartbeats 1000000 in
theorem szStarS_any (A : Option Addr) (c : Nat) (l : List StarT) (left : Int) (w : World) (h : 0 ≤ left) (k : left ≤ 1048576) (hl : l.length ≤ maxLen) (hr : Rd w w.heap.size 5 A l.length (l.flatMap StarT.cells)) (hok : ∀ x ∈ l, x.ok) :
    Calls Try.prog 4 #[.slice A l.length c, .int .i64 left] w (SzPost left l.length w) := by
  unfold maxLen at hl
  have HO := hide hok
  clear hok
  by_cases c1 : left - (l.length : Int) < 0
  · clear hr
    go_enter Try.func4, Try.ntmps4
    go_wp2
    go_ret
    exact ⟨_, rfl, by omega, (by repeat (first | exact Below.refl _ _ | assumption | refine Below.drew ?_ | refine below_drewN ?_ _ | refine Below.alloc ?_ (by first | omega | (simp; done) | (simp; omega)) _ | refine Below.setCell ?_ (by first | omega | (simp; done) | (simp; omega)) _ | refine Below.trans ?_ (Below.mono (by assumption) (by first | omega | (simp; done) | (simp; omega)))))⟩
  go_enter Try.func4, Try.ntmps4
  go_wp2_with fail
  go_loopw [1, 5] (fun t i wr => ∃ (k : Nat) (r : Int), k ≤ l.length ∧ i = .int .i64 k ∧ t = .int .i64 r ∧ 0 ≤ r ∧ r ≤ left - (l.length : Int) ∧ Below w.heap.size w wr) (fun _ i _ => l.length - (intOf i).toNat)
  case atStart => exact ⟨0, _, by omega, rfl, rfl, by omega, by omega, (by repeat (first | exact Below.refl _ _ | assumption | refine Below.drew ?_ | refine below_drewN ?_ _ | refine Below.alloc ?_ (by first | omega | (simp; done) | (simp; omega)) _ | refine Below.setCell ?_ (by first | omega | (simp; done) | (simp; omega)) _ | refine Below.trans ?_ (Below.mono (by assumption) (by first | omega | (simp; done) | (simp; omega)))))⟩
  case round =>
    obtain ⟨k, r, hk, rfl, rfl, r1, r2, hb⟩ := hrel
    have Hb := hide hb
    by_cases hlt : k < l.length
    · obtain ⟨g, off, rfl, hg, hc⟩ := hr.elem StarT.cells_len hlt
      have f0 : wr.cell? ⟨g, off + k * 5, none⟩ = some (.string l[k].name) := (hb.cell (p := ⟨g, off + k * 5, none⟩) hg).trans (hc 0 _ rfl)
      have f1 : wr.cell? ⟨g, off + k * 5 + 1, none⟩ = some (.int .i64 l[k].asc) := (hb.cell (p := ⟨g, off + k * 5 + 1, none⟩) hg).trans (hc 1 _ rfl)
      have f2 : wr.cell? ⟨g, off + k * 5 + 2, none⟩ = some (.int .i64 l[k].dec) := (hb.cell (p := ⟨g, off + k * 5 + 2, none⟩) hg).trans (hc 2 _ rfl)
      have f3 : wr.cell? ⟨g, off + k * 5 + 3, none⟩ = some (.int .i64 l[k].bri) := (hb.cell (p := ⟨g, off + k * 5 + 3, none⟩) hg).trans (hc 3 _ rfl)
      have f4 : wr.cell? ⟨g, off + k * 5 + 4, none⟩ = some (.int .i64 l[k].fai) := (hb.cell (p := ⟨g, off + k * 5 + 4, none⟩) hg).trans (hc 4 _ rfl)
      have ho := HO.out l[k] (List.getElem_mem _)
      have HX := hide ho
      clear hc hr hb ho
      go_wp2_with fail
      refine (szStar_any _ _ _ _ _ _ _ (by omega) (by omega) (by have ho := HX.out; exact ho.1)).mono ?_
      rintro e w1 ⟨r', rfl, hr', hb1⟩
      rcases hr' with rfl | ⟨r3, r4⟩
      · go_wp2
        go_ret
        exact ⟨_, rfl, by omega, Hb.out.trans (hb1.mono Hb.out.size)⟩
      · go_wp2
        go_roundw
        case rel => exact ⟨k + 1, r', by omega, by go_num, rfl, by omega, by omega, Hb.out.trans (hb1.mono Hb.out.size)⟩
        case measure => simp [intOf]; omega
    · obtain rfl : k = l.length := by omega
      clear hr hb
      go_wp2
      go_ret
      exact ⟨r, rfl, by omega, Hb.out⟩
theorem recStar_end : True := trivial
end Go.Proofs.Ythgppfbepfgelaa
