/-
  Contracts: MedianDiff, both sides.
-/
import Derived.Test.YtdbfebhmldbdbaaMedD
namespace Go.Proofs.Ytdbfebhmldbdbaa
open Go.RowKit Pl
set_option linter.unusedVariables false
set_option linter.unusedSimpArgs false
def mdOf (n : Int) (l : List ComT) (a b : Int) : Int × Int :=
  if comsB n l = false then (0, 1) else if inB a 0 (n - 1) = false ∨ inB b 0 (n - 1) = false ∨ a = b then (0, 2) else if (dfs a b l).length = 0 then (0, 3) else (med (dfs a b l), 0)
theorem dfs_bd' {a b : Int} {l : List ComT} (h : ComsOk l) : ∀ x ∈ dfs a b l, -1000000000 ≤ x ∧ x ≤ 1000000000 := fun x hx => by
  have := dfs_bd (a := a) (b := b) (fun i hi => (h.2 i hi).2) x hx
  omega
set_option maxHeartbeats 2000000 in
theorem spec_MedianDiff_any (A : Option Addr) (c : Nat) (n : Int) (l : List ComT) (a b : Int) (w : World) (hl : l.length ≤ 1048576) (hr : Rd w w.heap.size 3 A l.length (l.flatMap ComT.cells)) :
    Calls Try.prog 12 #[.int .i64 n, .slice A l.length c, .int .i64 a, .int .i64 b] w fun e w' => e = .returned (.tuple #[.int .i64 (mdOf n l a b).1, .int .i64 (mdOf n l a b).2]) ∧ Below w.heap.size w w' := by
  have HR := hide hr
  clear hr
  cases h1 : comsB n l
  · go_enter Try.func12, Try.ntmps12
    go_wp2_with (go_at_call 27; refine (l05Commons_any A c n l _ hl HR.out).mono ?_; rintro e w' ⟨rfl, q, rfl⟩)
    go_ret2
    exact ⟨ret2 (by simp [mdOf, h1]), (by repeat (first | exact Below.refl _ _ | assumption | refine Below.drew ?_ | refine below_drewN ?_ _ | refine Below.alloc ?_ (by first | omega | (simp; done) | (simp; omega)) _ | refine Below.setCell ?_ (by first | omega | (simp; done) | (simp; omega)) _ | refine Below.trans ?_ (Below.mono (by assumption) (by first | omega | (simp; done) | (simp; omega)))))⟩
  have HOK := hide (comsOk h1)
  obtain ⟨n1, n2, hl60, _⟩ := coms_true h1
  cases h2 : inB a 0 (n - 1)
  · go_enter Try.func12, Try.ntmps12
    go_wp2_with (first | (go_at_call 27; refine (l05Commons_any A c n l _ hl HR.out).mono ?_; rintro e w' ⟨rfl, q, rfl⟩) | (go_at_call 28; refine (l00In_any _ _ _ _).mono ?_; rintro e w' ⟨rfl, rfl⟩))
    go_ret2
    exact ⟨ret2 (by simp [mdOf, h1, h2]), (by repeat (first | exact Below.refl _ _ | assumption | refine Below.drew ?_ | refine below_drewN ?_ _ | refine Below.alloc ?_ (by first | omega | (simp; done) | (simp; omega)) _ | refine Below.setCell ?_ (by first | omega | (simp; done) | (simp; omega)) _ | refine Below.trans ?_ (Below.mono (by assumption) (by first | omega | (simp; done) | (simp; omega)))))⟩
  cases h3 : inB b 0 (n - 1)
  · go_enter Try.func12, Try.ntmps12
    go_wp2_with (first | (go_at_call 27; refine (l05Commons_any A c n l _ hl HR.out).mono ?_; rintro e w' ⟨rfl, q, rfl⟩) | (go_at_call 28; refine (l00In_any _ _ _ _).mono ?_; rintro e w' ⟨rfl, rfl⟩))
    go_ret2
    exact ⟨ret2 (by simp [mdOf, h1, h3]), (by repeat (first | exact Below.refl _ _ | assumption | refine Below.drew ?_ | refine below_drewN ?_ _ | refine Below.alloc ?_ (by first | omega | (simp; done) | (simp; omega)) _ | refine Below.setCell ?_ (by first | omega | (simp; done) | (simp; omega)) _ | refine Below.trans ?_ (Below.mono (by assumption) (by first | omega | (simp; done) | (simp; omega)))))⟩
  by_cases hab : a = b
  · have h4 : (a == b) = true := by simp [hab]
    have HAB := hide hab
    clear hab
    go_enter Try.func12, Try.ntmps12
    go_wp2_with (first | (go_at_call 27; refine (l05Commons_any A c n l _ hl HR.out).mono ?_; rintro e w' ⟨rfl, q, rfl⟩) | (go_at_call 28; refine (l00In_any _ _ _ _).mono ?_; rintro e w' ⟨rfl, rfl⟩))
    go_ret2
    exact ⟨ret2 (by simp [mdOf, h1, HAB.out]), (by repeat (first | exact Below.refl _ _ | assumption | refine Below.drew ?_ | refine below_drewN ?_ _ | refine Below.alloc ?_ (by first | omega | (simp; done) | (simp; omega)) _ | refine Below.setCell ?_ (by first | omega | (simp; done) | (simp; omega)) _ | refine Below.trans ?_ (Below.mono (by assumption) (by first | omega | (simp; done) | (simp; omega)))))⟩
  have h4 : (a == b) = false := by simp [hab]
  have hdl := dfs_len a b l
  go_enter Try.func12, Try.ntmps12
  go_wp2_with (first | (go_at_call 27; refine (l05Commons_any A c n l _ hl HR.out).mono ?_; rintro e w' ⟨rfl, q, rfl⟩) | (go_at_call 28; refine (l00In_any _ _ _ _).mono ?_; rintro e w' ⟨rfl, rfl⟩) | (go_at_call 29; fail))
  have hC := fun W (hB : Below w.heap.size w W) => l05Diffs_any A c l a b W hab HOK.out ((HR.out.below hB).more hB.size)
  refine (hC _ (by repeat (first | exact Below.refl _ _ | assumption | refine Below.drew ?_ | refine below_drewN ?_ _ | refine Below.alloc ?_ (by first | omega | (simp; done) | (simp; omega)) _ | refine Below.setCell ?_ (by first | omega | (simp; done) | (simp; omega)) _ | refine Below.trans ?_ (Below.mono (by assumption) (by first | omega | (simp; done) | (simp; omega)))))).mono ?_
  clear hC
  rintro e w1 ⟨A', c', rfl, v, b1⟩
  have HB := hide (show Below w.heap.size w w1 from Below.trans (by repeat (first | exact Below.refl _ _ | assumption | refine Below.drew ?_ | refine below_drewN ?_ _ | refine Below.alloc ?_ (by first | omega | (simp; done) | (simp; omega)) _ | refine Below.setCell ?_ (by first | omega | (simp; done) | (simp; omega)) _ | refine Below.trans ?_ (Below.mono (by assumption) (by first | omega | (simp; done) | (simp; omega))))) (b1.mono (Nat.le_refl _)))
  have HO := hide v
  clear v b1
  by_cases hz : (dfs a b l).length = 0
  · have hz1 : (((dfs a b l).length : Int) == 0) = true := by simp [hz]
    have HZ := hide hz
    clear hz
    go_wp2
    go_ret2
    exact ⟨ret2 (by simp [mdOf, h1, h2, h3, hab, HZ.out]), HB.out⟩
  · have hz1 : (((dfs a b l).length : Int) == 0) = false := by rw [beq_eq_false_iff_ne]; omega
    go_wp2_with fail
    refine (l02Median_any A' c' (dfs a b l) _ (by omega) (by omega) (dfs_bd' HOK.out) HO.out.rd).mono ?_
    rintro e w2 ⟨rfl, b2⟩
    go_wp2
    go_ret2
    exact ⟨ret2 (by simp [mdOf, h1, h2, h3, hab, hz]), HB.out.trans (b2.mono HB.out.size)⟩
set_option maxHeartbeats 2000000 in
theorem impl_MedianDiff_any (A : Option Addr) (c : Nat) (n : Int) (l : List ComT) (a b : Int) (w : World) (hl : l.length ≤ 1048576) (hr : Rd w w.heap.size 3 A l.length (l.flatMap ComT.cells)) :
    Calls Try.prog 14 #[.int .i64 n, .slice A l.length c, .int .i64 a, .int .i64 b] w fun e w' => e = .returned (.tuple #[.int .i64 (mdOf n l a b).1, .int .i64 (mdOf n l a b).2]) ∧ Below w.heap.size w w' := by
  have HR := hide hr
  clear hr
  go_enter Try.func14, Try.ntmps14
  go_wp2_with fail
  obtain ⟨w0, hw0⟩ : ∃ w0, w0 = w.alloc (.cells #[.int .i64 a] 2) := ⟨_, rfl⟩
  have B0 := hide (show Below w.heap.size w w0 from hw0 ▸ (Below.refl _ _).alloc (Nat.le_refl _) _)
  have hz0 : w0.heap.size = w.heap.size + 1 := by rw [hw0]; simp
  have C0 : w0.cell? ⟨w.heap.size, 0, none⟩ = some (.int .i64 a) := by rw [hw0]; simp [go_sem]
  rw [← hw0]
  clear hw0
  refine (impl_ValidCommons_any A c n l w0 hl ((HR.out.below B0.out).more B0.out.size)).mono ?_
  rintro e w1 ⟨rfl, b1⟩
  have hs1 := b1.size
  have C1 : w1.cell? ⟨w.heap.size, 0, none⟩ = some (.int .i64 a) := (b1.cell (p := ⟨w.heap.size, 0, none⟩) (by simp; omega)).trans C0
  have B1 := hide (B0.out.trans (b1.mono B0.out.size))
  have hc1 := C1
  clear b1 C0
  have HC := hide C1
  clear C1
  cases h1 : comsB n l
  · go_wp2
    go_ret2
    exact ⟨ret2 (by simp [mdOf, h1]), B1.out⟩
  have HOK := hide (comsOk h1)
  obtain ⟨n1, n2, hl60, _⟩ := coms_true h1
  cases h2 : inB a 0 (n - 1)
  · go_wp2_with (go_at_call 32; refine (in_any _ _ _ _).mono ?_; rintro e w' ⟨rfl, rfl⟩)
    go_ret2
    exact ⟨ret2 (by simp [mdOf, h1, h2]), B1.out⟩
  cases h3 : inB b 0 (n - 1)
  · go_wp2_with (go_at_call 32; refine (in_any _ _ _ _).mono ?_; rintro e w' ⟨rfl, rfl⟩)
    go_ret2
    exact ⟨ret2 (by simp [mdOf, h1, h3]), B1.out⟩
  by_cases hab : a = b
  · have h4 : (a == b) = true := by simp [hab]
    have HAB := hide hab
    clear hab
    go_wp2_with (go_at_call 32; refine (in_any _ _ _ _).mono ?_; rintro e w' ⟨rfl, rfl⟩)
    go_ret2
    exact ⟨ret2 (by simp [mdOf, h1, HAB.out]), B1.out⟩
  have h4 : (a == b) = false := by simp [hab]
  have hdl := dfs_len a b l
  go_wp2_with (first | (go_at_call 32; refine (in_any _ _ _ _).mono ?_; rintro e w' ⟨rfl, rfl⟩) | (go_at_call 33; fail))
  have B2 : Below (w.heap.size + 1) w1 ((w1.alloc (.cells #[] 2)).alloc (.cells #[.slice (some ⟨w1.heap.size, 0, none⟩) 0 0] 22)) := ((Below.refl _ _).alloc (by omega) _).alloc (by simp; omega) _
  have hk2 : (w1.alloc (.cells #[] 2)).heap.size = w1.heap.size + 1 := by simp
  have BX := Boxed.new (w1.alloc (.cells #[] 2)) 22 (.slice (some ⟨w1.heap.size, 0, none⟩) 0 0)
  rw [hk2] at BX
  have hC := against_any A c l a b (w.heap.size + 1) w.heap.size (w1.heap.size + 1) (.slice (some ⟨w1.heap.size, 0, none⟩) 0 0) ((w1.alloc (.cells #[] 2)).alloc (.cells #[.slice (some ⟨w1.heap.size, 0, none⟩) 0 0] 22)) hab HOK.out (by simp; omega) (by omega) (by omega) ((B2.cell (p := ⟨w.heap.size, 0, none⟩) (by simp)).trans HC.out) BX ((Own.empty_ w1 2 1 (by omega)).alloc _) (((HR.out.below B1.out).below (B2.mono (Nat.le_succ _))).more (Nat.le_succ _))
  have HB2 := hide B2
  clear B2 BX
  refine hC.mono ?_
  clear hC
  rintro e w3 ⟨rfl, b3, u', hv', hrow'⟩
  obtain ⟨A', c', rfl, hown⟩ := own_cases hrow'
  have hcd := hv'.cell
  have hfd := hv'.frozen
  have HB := hide (show Below w.heap.size w w3 from B1.out.trans (((HB2.out.trans b3).mono (Nat.le_succ _))))
  have HO := hide hown
  clear b3 hv' hrow' hown hc1
  by_cases hz : (dfs a b l).length = 0
  · have hz1 : (((dfs a b l).length : Int) == 0) = true := by simp [hz]
    have HZ := hide hz
    clear hz
    go_wp2
    go_ret2
    exact ⟨ret2 (by simp [mdOf, h1, h2, h3, hab, HZ.out]), HB.out⟩
  · have hz1 : (((dfs a b l).length : Int) == 0) = false := by rw [beq_eq_false_iff_ne]; omega
    go_wp2_with fail
    refine (median_any A' c' (dfs a b l) _ (by omega) (by omega) (dfs_bd' HOK.out) HO.out.rd).mono ?_
    rintro e w4 ⟨rfl, b4⟩
    go_wp2
    go_ret2
    exact ⟨ret2 (by simp [mdOf, h1, h2, h3, hab, hz]), HB.out.trans (b4.mono HB.out.size)⟩
theorem medE_end : True := trivial
end Go.Proofs.Ytdbfebhmldbdbaa
