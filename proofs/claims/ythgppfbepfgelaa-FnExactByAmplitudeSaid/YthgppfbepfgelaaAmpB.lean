/-
  Contracts: the exchange of two ranges, the rotation, the insertion sort, over a row that is known whole.
-/
import Derived.Test.YthgppfbepfgelaaAmpA
namespace Go.Proofs.Ythgppfbepfgelaa
open Go.RowKit Pl Go.Sort
set_option linter.unusedVariables false
set_option linter.unusedSimpArgs false
/-- The row of block g: the numbers D, then what lies behind them. -/
def Rw (w : World) (g : Nat) (rest : List Value) (D : Array Int) : Prop := Bk w g 2 ((ints D.toList ++ rest).toArray)
section
variable {w w' : World} {g lo : Nat} {rest : List Value} {D : Array Int}
theorem Rw.cell (h : Rw w g rest D) {p : Nat} (hp : p < D.size) : w.cell? ⟨g, p, none⟩ = some (.int .i64 D[p]!) := by
  rw [Bk.cell h, List.getElem?_toArray, List.getElem?_append_left (by simp [ints]; exact hp), getElem!_pos D p hp]
  simp [ints, hp]
theorem Rw.frozen (h : Rw w g rest D) (p : Nat) : w.frozen? ⟨g, p, none⟩ = false := Bk.frozen h p
theorem Rw.lt (h : Rw w g rest D) : g < w.heap.size := Bk.lt h
theorem Rw.set (h : Rw w g rest D) {p : Nat} (hp : p < D.size) (v : Int) : Rw (w.setCell ⟨g, p, none⟩ (.int .i64 v)) g rest (D.setIfInBounds p v) := by
  have h1 := Bk.set_ h p (.int .i64 v)
  have e : (ints D.toList ++ rest).toArray.setIfInBounds p (.int .i64 v) = (ints (D.setIfInBounds p v).toList ++ rest).toArray := by
    simp only [List.setIfInBounds_toArray, Array.toList_setIfInBounds]
    rw [List.set_append_left _ _ (by simp [ints]; exact hp)]
    simp [ints, List.map_set]
  rw [e] at h1
  exact h1
theorem Rw.swp (h : Rw w g rest D) {i j : Nat} (hi : i < D.size) (hj : j < D.size) : Rw ((w.setCell ⟨g, i, none⟩ (.int .i64 D[j]!)).setCell ⟨g, j, none⟩ (.int .i64 D[i]!)) g rest (swp D i j) :=
  (h.set hi _).set (by simpa using hj) _
theorem Rw.drew (h : Rw w g rest D) : Rw w.drew g rest D := h
theorem Rw.drewN (h : Rw w g rest D) (n : Nat) : Rw (w.drewN n) g rest D := h
end
set_option maxHeartbeats 4000000 in
set_option maxRecDepth 100000 in
theorem swapRange_any (g cap lo a b n : Nat) (rest : List Value) (D : Array Int) (fv : Value) (w : World) (hR : Rw w g rest D) (hlo : lo ≤ g) (hab : a + n ≤ b) (hb : b + n ≤ D.size) (hsz : D.size ≤ 1000) :
    Calls Try.prog 44 #[.slice (some ⟨g, 0, none⟩) D.size cap, .int .i64 a, .int .i64 b, .int .i64 n, fv] w fun e w' => e = .returned (.tuple #[]) ∧ Rw w' g rest (swR D a b n) ∧ Below lo w w' := by
  have HR := hide hR
  clear hR
  go_enter Try.func44, Try.ntmps44
  go_wp2_with fail
  go_loopw [10] (fun i wr => ∃ k : Nat, k ≤ n ∧ i = .int .i64 k ∧ Rw wr g rest (swR D a b k) ∧ Below lo w wr) (fun i _ => n - (intOf i).toNat)
  case atStart => exact ⟨0, by omega, rfl, HR.out, Below.refl _ _⟩
  case round =>
    obtain ⟨k, hk, rfl, hr, hbl⟩ := hrel
    have HW := hide hr
    have HB := hide hbl
    by_cases hlt : k < n
    · obtain ⟨p, hp⟩ : ∃ p, p = a + k := ⟨_, rfl⟩
      obtain ⟨q, hq⟩ : ∃ q, q = b + k := ⟨_, rfl⟩
      have hw1 : IntKind.i64.wrap ((a : Int) + (k : Int)) = (p : Int) := by rw [IntKind.wrap_i64]; omega
      have hw2 : IntKind.i64.wrap ((b : Int) + (k : Int)) = (q : Int) := by rw [IntKind.wrap_i64]; omega
      have i1 : (0 : Int) ≤ (p : Int) := by omega
      have i2 : (p : Int) < (D.size : Int) := by omega
      have i3 : (0 : Int) ≤ (q : Int) := by omega
      have i4 : (q : Int) < (D.size : Int) := by omega
      have hne : p ≠ q := by omega
      have HP := hide (And.intro hp hq)
      have f1 := hr.cell (p := p) (by rw [swR_size]; omega)
      have f2 := hr.cell (p := q) (by rw [swR_size]; omega)
      have z1 := hr.frozen p
      have z2 := hr.frozen q
      obtain ⟨x, hx⟩ : ∃ x, x = (swR D a b k)[p]! := ⟨_, rfl⟩
      obtain ⟨y, hy⟩ : ∃ y, y = (swR D a b k)[q]! := ⟨_, rfl⟩
      rw [← hx] at f1
      rw [← hy] at f2
      have HX := hide (And.intro hx hy)
      clear hr hbl hp hq hx hy
      go_wp2_with fail
      go_region
      all_goals
        go_wp2
        go_roundw
        case rel =>
          obtain ⟨hp, hq⟩ := HP.out
          obtain ⟨hx, hy⟩ := HX.out
          have h := (HW.out.swp (i := p) (j := q) (by rw [swR_size]; omega) (by rw [swR_size]; omega)).drew
          rw [← hx, ← hy] at h
          have e : swp (swR D a b k) p q = swR D a b (k + 1) := by rw [hp, hq]; rfl
          rw [e] at h
          exact ⟨k + 1, by omega, by go_num, h, ((HB.out.setCell hlo _).setCell hlo _).drew⟩
        case measure => simp [intOf]; omega
    · obtain rfl : k = n := by omega
      clear hr hbl
      go_wp2
      go_end0
      exact ⟨rfl, HW.out, HB.out⟩
set_option maxHeartbeats 4000000 in
set_option maxRecDepth 100000 in
theorem rotate_any (g cap lo a m b : Nat) (rest : List Value) (D : Array Int) (fv : Value) (w : World) (hR : Rw w g rest D) (hlo : lo ≤ g) (ham : a < m) (hmb : m < b) (hb : b ≤ D.size) (hsz : D.size ≤ 1000) :
    Calls Try.prog 43 #[.slice (some ⟨g, 0, none⟩) D.size cap, .int .i64 a, .int .i64 m, .int .i64 b, fv] w fun e w' => e = .returned (.tuple #[]) ∧ (∃ D', Rw w' g rest D' ∧ PermIn a b D D' ∧ ∀ p, D'[p]! = rotT D a m b p) ∧ Below lo w w' := by
  have HR := hide hR
  clear hR
  have hw1 : IntKind.i64.wrap ((m : Int) - (a : Int)) = ((m - a : Nat) : Int) := by rw [IntKind.wrap_i64]; omega
  have hw2 : IntKind.i64.wrap ((b : Int) - (m : Int)) = ((b - m : Nat) : Int) := by rw [IntKind.wrap_i64]; omega
  obtain ⟨i0, hi0⟩ : ∃ i0, i0 = m - a := ⟨_, rfl⟩
  obtain ⟨j0, hj0⟩ : ∃ j0, j0 = b - m := ⟨_, rfl⟩
  rw [← hi0] at hw1
  rw [← hj0] at hw2
  have HI0 := hide (show 0 < i0 ∧ 0 < j0 ∧ Rot a m b D D i0 j0 from ⟨by omega, by omega, by rw [hi0, hj0]; exact Rot.start (by omega) (by omega)⟩)
  clear hi0 hj0
  go_enter Try.func43, Try.ntmps43
  go_wp2_with fail
  go_loopw [10, 11] (fun vi vj wr => ∃ (i j : Nat) (D1 : Array Int), vi = .int .i64 i ∧ vj = .int .i64 j ∧ 0 < i ∧ 0 < j ∧ Rot a m b D D1 i j ∧ Rw wr g rest D1 ∧ Below lo w wr) (fun vi vj _ => (intOf vi).toNat + (intOf vj).toNat)
  case atStart => exact ⟨i0, j0, D, rfl, rfl, HI0.out.1, HI0.out.2.1, HI0.out.2.2, HR.out, Below.refl _ _⟩
  case round =>
    obtain ⟨i, j, D1, rfl, rfl, hi, hj, hrot, hr, hbl⟩ := hrel
    have hS1 : D1.size = D.size := hrot.perm.1
    have hi2 := hrot.hi
    have hj2 := hrot.hj
    have HW := hide hr
    have HB := hide hbl
    have HT := hide hrot
    obtain ⟨p, hp⟩ : ∃ p, p = m - i := ⟨_, rfl⟩
    have hwa : IntKind.i64.wrap ((m : Int) - (i : Int)) = (p : Int) := by rw [IntKind.wrap_i64]; omega
    clear hr hbl hrot
    by_cases hij : i = j
    · have d1 : ((i : Int) != (j : Int)) = false := by simp [hij]
      have hC := swapRange_any g cap lo p m i rest D1 fv wr HW.out hlo (by omega) (by omega) (by omega)
      rw [hS1] at hC
      have HC := hide hC
      have HP := hide (And.intro hp hij)
      clear hC hp hij hi2 hj2 hS1
      go_wp2_with fail
      refine HC.out.mono ?_
      rintro e w2 ⟨rfl, hr2, hb2⟩
      have HX := hide (And.intro hr2 hb2)
      clear hr2 hb2
      go_wp2
      go_end0
      have hT : Rot a m b D D1 i i := by have := HT.out; rw [← HP.out.2] at this; exact this
      obtain ⟨h1, h2⟩ := hT.eq (by omega) (by omega) (by have := hT.perm.1; omega)
      have e := HX.out.1
      rw [HP.out.1] at e
      exact ⟨rfl, ⟨_, e, h1, h2⟩, HB.out.trans HX.out.2⟩
    · have d1 : ((i : Int) != (j : Int)) = true := by simp; omega
      by_cases hgt : j < i
      · have d3 : (j : Int) < (i : Int) := by omega
        obtain ⟨q, hq⟩ : ∃ q, q = i - j := ⟨_, rfl⟩
        have hwb : IntKind.i64.wrap ((i : Int) - (j : Int)) = (q : Int) := by rw [IntKind.wrap_i64]; omega
        have hC := swapRange_any g cap lo p m j rest D1 fv wr HW.out hlo (by omega) (by omega) (by omega)
        rw [hS1] at hC
        have HC := hide hC
        have hN := HT.out.gt (by omega) (by omega) (by omega) hgt
        rw [← hp, ← hq] at hN
        have HN := hide hN
        have HQ := hide (show 0 < q ∧ q + j < i + j by omega)
        clear hC hp hq hij hi2 hj2 hS1 hN
        go_wp2_with fail
        refine HC.out.mono ?_
        rintro e w2 ⟨rfl, hr2, hb2⟩
        have HX := hide (And.intro hr2 hb2)
        clear hr2 hb2
        go_wp2
        go_roundw
        case rel => exact ⟨q, j, _, rfl, rfl, HQ.out.1, hj, HN.out, HX.out.1, HB.out.trans HX.out.2⟩
        case measure => have := HQ.out.2; simp [intOf]; omega
      · have d3 : ¬ (j : Int) < (i : Int) := by omega
        obtain ⟨q, hq⟩ : ∃ q, q = j - i := ⟨_, rfl⟩
        obtain ⟨r, hr⟩ : ∃ r, r = m + j - i := ⟨_, rfl⟩
        obtain ⟨t, ht⟩ : ∃ t, t = m + j := ⟨_, rfl⟩
        have hwb : IntKind.i64.wrap ((j : Int) - (i : Int)) = (q : Int) := by rw [IntKind.wrap_i64]; omega
        have hwc : IntKind.i64.wrap ((m : Int) + (j : Int)) = (t : Int) := by rw [IntKind.wrap_i64]; omega
        have hwd : IntKind.i64.wrap ((t : Int) - (i : Int)) = (r : Int) := by rw [IntKind.wrap_i64]; omega
        have hC := swapRange_any g cap lo p r i rest D1 fv wr HW.out hlo (by omega) (by omega) (by omega)
        rw [hS1] at hC
        have HC := hide hC
        have hN := HT.out.lt (by omega) (by omega) (by omega) (show i < j by omega)
        rw [← hp, ← hq, ← hr] at hN
        have HN := hide hN
        have HQ := hide (show 0 < q ∧ i + q < i + j by omega)
        clear hC hp hq hr ht hij hi2 hj2 hS1 hN
        go_wp2_with fail
        refine HC.out.mono ?_
        rintro e w2 ⟨rfl, hr2, hb2⟩
        have HX := hide (And.intro hr2 hb2)
        clear hr2 hb2
        go_wp2
        go_roundw
        case rel => exact ⟨i, q, _, rfl, rfl, hi, HQ.out.1, HN.out, HX.out.1, HB.out.trans HX.out.2⟩
        case measure => have := HQ.out.2; simp [intOf]; omega
theorem ampB_end : True := trivial
end Go.Proofs.Ythgppfbepfgelaa
