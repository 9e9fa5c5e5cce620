/-
  Contracts: the box around a star.
-/
import Derived.Test.YtjflebgaemgeeaaOk
import Derived.Test.YtjflebgaemgeeaaPlB
import Derived.Test.YtjflebgaemgeeaaKp
import Derived.Test.YtjflebgaemgeeaaMinMax
import Derived.Test.YtjflebgaemgeeaaRecS
import Derived.Deep.RegionHeld3
import Derived.Deep.QuietTactic
import Derived.Outline
namespace Go.Proofs.Ytjflebgaemgeeaa
open Go.RowKit Pl
set_option linter.unusedVariables false
set_option linter.unusedSimpArgs false
def boxFA (a q : Int) : Int := (a - q) % 86400
def boxTA (a q : Int) : Int := (a + q) % 86400
def boxFD (d q : Int) : Int := maxI (d - 15 * q) (-324000)
def boxTD (d q : Int) : Int := minI (d + 15 * q) 324000
def boxB (s : ByteArray) (a d b f q : Int) : Bool := starB s a d b f && inB q 0 40000
def boxOf (s : ByteArray) (a d b f q : Int) : Value := if boxB s a d b f q = true then .tuple #[.agg #[.int .i64 (boxFA a q), .int .i64 (boxTA a q), .int .i64 (boxFD d q), .int .i64 (boxTD d q)], .int .i64 0] else .tuple #[.agg #[.int .i64 0, .int .i64 0, .int .i64 0, .int .i64 0], .int .i64 2]
theorem star_true {s : ByteArray} {a d b f : Int} (h : starB s a d b f = true) : 0 ≤ a ∧ a ≤ 86399 ∧ -324000 ≤ d ∧ d ≤ 324000 := by
  simp only [starB, Bool.and_eq_true] at h
  have h1 := inB_true h.1.1.1.2.1
  have h2 := inB_true h.1.1.1.2.2
  omega
theorem retv {v v' : Value} (h : v = v') : Ending.returned v = .returned v' := by rw [h]
theorem mod_any (a : Int) (w : World) (h : -1000000 ≤ a) (k : a ≤ 1000000) : Calls Try.prog 91 #[.int .i64 a, .int .i64 86400] w fun e w' => e = .returned (.int .i64 (a % 86400)) ∧ w = w' := by
  have e := hide (show a - fdiv a 86400 * 86400 = a % 86400 from by unfold fdiv; omega)
  obtain ⟨e1, e2⟩ := fdiv_bd (a := a) (b := 86400) (by omega) (by omega) (by omega)
  have e3 := hide (fdiv_mul (a := a) (b := 86400) (by omega))
  obtain ⟨e4, e5⟩ := e3.out
  go_enter Try.func91, Try.ntmps91
  go_wp2_with (go_at_call 112; refine (floorDiv_any _ _ _ (by omega) (by omega) (by omega) (by omega)).mono ?_; rintro e w' ⟨rfl, rfl⟩)
  go_ret
  exact ⟨ret_int e.out, rfl⟩
theorem l04Around_any (a : Int) (w : World) (h : -1000000 ≤ a) (k : a ≤ 1000000) : Calls Try.prog 89 #[.int .i64 a] w fun e w' => e = .returned (.int .i64 (a % 86400)) ∧ w = w' := by
  have h1 : a.tmod 86400 = a % 86400 ∨ a.tmod 86400 = -((-a) % 86400) := by
    rcases Int.lt_or_le a 0 with h0 | h0
    · right
      rw [← Int.tmod_eq_emod_of_nonneg (show 0 ≤ -a from by omega), Int.neg_tmod, Int.neg_neg]
    · left; exact Int.tmod_eq_emod_of_nonneg h0
  have h2 : -86400 < a.tmod 86400 := by omega
  have h3 : a.tmod 86400 < 86400 := by omega
  have e := hide (show (a.tmod 86400 + 86400) % 86400 = a % 86400 from by omega)
  clear h1
  go_enter Try.func89, Try.ntmps89
  go_wp2
  go_ret
  exact ⟨ret_int e.out, rfl⟩
theorem eqBox_same (a b c d : Int) (w : World) : Calls Try.prog 49 #[.agg #[.int .i64 a, .int .i64 b, .int .i64 c, .int .i64 d], .agg #[.int .i64 a, .int .i64 b, .int .i64 c, .int .i64 d]] w fun e w' => e = .returned (.bool true) ∧ Below w.heap.size w w' := by
  go_enter Try.func49, Try.ntmps49
  go_wp2
  go_ret
  exact ⟨rfl, (by repeat (first | exact Below.refl _ _ | assumption | refine Below.drew ?_ | refine below_drewN ?_ _ | refine Below.alloc ?_ (by first | omega | (simp; done) | (simp; omega)) _ | refine Below.setCell ?_ (by first | omega | (simp; done) | (simp; omega)) _ | refine Below.trans ?_ (Below.mono (by assumption) (by first | omega | (simp; done) | (simp; omega)))))⟩
set_option maxHeartbeats 2000000 in
set_option maxRecDepth 100000 in
theorem impl_BoxAround_any (s : ByteArray) (a d b f q : Int) (w : World) (gs : s.size ≤ maxLen) : Calls Try.prog 48 #[.agg #[.string s, .int .i64 a, .int .i64 d, .int .i64 b, .int .i64 f], .int .i64 q] w fun e w' => e = .returned (boxOf s a d b f q) ∧ Below w.heap.size w w' := by
  cases h1 : starB s a d b f
  · go_enter Try.func48, Try.ntmps48
    go_wp2_with fail
    refine (impl_isStar_any s a d b f _ gs).mono ?_
    rintro e w1 ⟨rfl, hb1⟩
    have B1 : Bk w1 (w.heap.size + 1) 63 #[.int .i64 0, .int .i64 0, .int .i64 0, .int .i64 0] := by
      have h := (Bk.new (w.alloc (.cells #[.string s, .int .i64 a, .int .i64 d, .int .i64 b, .int .i64 f] 66)) 63 #[.int .i64 0, .int .i64 0, .int .i64 0, .int .i64 0]).below hb1 (by simp)
      rw [show (w.alloc (.cells #[.string s, .int .i64 a, .int .i64 d, .int .i64 b, .int .i64 f] 66)).heap.size = w.heap.size + 1 from by simp] at h
      exact h
    have B0 : Bk w1 w.heap.size 66 #[.string s, .int .i64 a, .int .i64 d, .int .i64 b, .int .i64 f] := ((Bk.new w 66 _).alloc _).below hb1 (by first | (simp; done) | (simp; omega))
    have g0 : w1.cell? ⟨w.heap.size + 1, 0, none⟩ = some (.int .i64 0) := B1.cell 0
    have g1 : w1.cell? ⟨w.heap.size + 1, 1, none⟩ = some (.int .i64 0) := B1.cell 1
    have g2 : w1.cell? ⟨w.heap.size + 1, 2, none⟩ = some (.int .i64 0) := B1.cell 2
    have g3 : w1.cell? ⟨w.heap.size + 1, 3, none⟩ = some (.int .i64 0) := B1.cell 3
    have q0 : w1.frozen? ⟨w.heap.size + 1, 0, none⟩ = false := B1.frozen 0
    have q1 : w1.frozen? ⟨w.heap.size + 1, 1, none⟩ = false := B1.frozen 1
    have q2 : w1.frozen? ⟨w.heap.size + 1, 2, none⟩ = false := B1.frozen 2
    have q3 : w1.frozen? ⟨w.heap.size + 1, 3, none⟩ = false := B1.frozen 3
    have x1 : w1.cell? ⟨w.heap.size, 1, none⟩ = some (.int .i64 a) := B0.cell 1
    have x2 : w1.cell? ⟨w.heap.size, 2, none⟩ = some (.int .i64 d) := B0.cell 2
    have HB := hide ((Below.refl w.heap.size w).trans (((Below.refl w.heap.size w).alloc (Nat.le_refl _) _).alloc (by first | (simp; done) | (simp; omega)) _ |>.trans (hb1.mono (by first | (simp; done) | (simp; omega)))))
    clear hb1
    go_wp2_with (go_at_call 58; refine (in_any _ _ _ _).mono ?_; rintro e w' ⟨rfl, rfl⟩)
    exact bodyPost_ret (v := .tuple #[.agg #[.int .i64 0, .int .i64 0, .int .i64 0, .int .i64 0], .int .i64 2]) (by simp [results, Try.results48, go_sem, *]) rfl ⟨retv (by simp [boxOf, boxB, h1]), (by have HBo := HB.out; exact (by repeat (first | exact Below.refl _ _ | assumption | refine Below.drew ?_ | refine below_drewN ?_ _ | refine Below.alloc ?_ (by first | omega | (simp; done) | (simp; omega)) _ | refine Below.setCell ?_ (by first | omega | (simp; done) | (simp; omega)) _ | refine Below.trans ?_ (Below.mono (by assumption) (by first | omega | (simp; done) | (simp; omega))))))⟩
  cases h2 : inB q 0 40000
  · go_enter Try.func48, Try.ntmps48
    go_wp2_with fail
    refine (impl_isStar_any s a d b f _ gs).mono ?_
    rintro e w1 ⟨rfl, hb1⟩
    have B1 : Bk w1 (w.heap.size + 1) 63 #[.int .i64 0, .int .i64 0, .int .i64 0, .int .i64 0] := by
      have h := (Bk.new (w.alloc (.cells #[.string s, .int .i64 a, .int .i64 d, .int .i64 b, .int .i64 f] 66)) 63 #[.int .i64 0, .int .i64 0, .int .i64 0, .int .i64 0]).below hb1 (by simp)
      rw [show (w.alloc (.cells #[.string s, .int .i64 a, .int .i64 d, .int .i64 b, .int .i64 f] 66)).heap.size = w.heap.size + 1 from by simp] at h
      exact h
    have B0 : Bk w1 w.heap.size 66 #[.string s, .int .i64 a, .int .i64 d, .int .i64 b, .int .i64 f] := ((Bk.new w 66 _).alloc _).below hb1 (by first | (simp; done) | (simp; omega))
    have g0 : w1.cell? ⟨w.heap.size + 1, 0, none⟩ = some (.int .i64 0) := B1.cell 0
    have g1 : w1.cell? ⟨w.heap.size + 1, 1, none⟩ = some (.int .i64 0) := B1.cell 1
    have g2 : w1.cell? ⟨w.heap.size + 1, 2, none⟩ = some (.int .i64 0) := B1.cell 2
    have g3 : w1.cell? ⟨w.heap.size + 1, 3, none⟩ = some (.int .i64 0) := B1.cell 3
    have q0 : w1.frozen? ⟨w.heap.size + 1, 0, none⟩ = false := B1.frozen 0
    have q1 : w1.frozen? ⟨w.heap.size + 1, 1, none⟩ = false := B1.frozen 1
    have q2 : w1.frozen? ⟨w.heap.size + 1, 2, none⟩ = false := B1.frozen 2
    have q3 : w1.frozen? ⟨w.heap.size + 1, 3, none⟩ = false := B1.frozen 3
    have x1 : w1.cell? ⟨w.heap.size, 1, none⟩ = some (.int .i64 a) := B0.cell 1
    have x2 : w1.cell? ⟨w.heap.size, 2, none⟩ = some (.int .i64 d) := B0.cell 2
    have HB := hide ((Below.refl w.heap.size w).trans (((Below.refl w.heap.size w).alloc (Nat.le_refl _) _).alloc (by first | (simp; done) | (simp; omega)) _ |>.trans (hb1.mono (by first | (simp; done) | (simp; omega)))))
    clear hb1
    go_wp2_with (go_at_call 58; refine (in_any _ _ _ _).mono ?_; rintro e w' ⟨rfl, rfl⟩)
    exact bodyPost_ret (v := .tuple #[.agg #[.int .i64 0, .int .i64 0, .int .i64 0, .int .i64 0], .int .i64 2]) (by simp [results, Try.results48, go_sem, *]) rfl ⟨retv (by simp [boxOf, boxB, h2]), (by have HBo := HB.out; exact (by repeat (first | exact Below.refl _ _ | assumption | refine Below.drew ?_ | refine below_drewN ?_ _ | refine Below.alloc ?_ (by first | omega | (simp; done) | (simp; omega)) _ | refine Below.setCell ?_ (by first | omega | (simp; done) | (simp; omega)) _ | refine Below.trans ?_ (Below.mono (by assumption) (by first | omega | (simp; done) | (simp; omega))))))⟩
  obtain ⟨a1, a2, d1, d2⟩ := star_true h1
  obtain ⟨z1, z2⟩ := inB_true h2
  have wr1 : IntKind.i64.wrap (a - q) = a - q := by rw [IntKind.wrap_i64]; omega
  have wr2 : IntKind.i64.wrap (a + q) = a + q := by rw [IntKind.wrap_i64]; omega
  have wr3 : IntKind.i64.wrap (15 * q) = 15 * q := by rw [IntKind.wrap_i64]; omega
  have wr4 : IntKind.i64.wrap (d - 15 * q) = d - 15 * q := by rw [IntKind.wrap_i64]; omega
  have hfd : (if d - 15 * q < -324000 then (-324000 : Int) else d - 15 * q) = boxFD d q := by unfold boxFD maxI; split <;> split <;> omega
  have htd1 : (if 324000 < d + 15 * q then (324000 : Int) else d + 15 * q) = boxTD d q := by unfold boxTD minI; split <;> split <;> omega
  have htd2 : (if d + 15 * q < 324000 then d + 15 * q else (324000 : Int)) = boxTD d q := rfl
  have hmx : maxI (-324000) (d - 15 * q) = boxFD d q := by unfold boxFD maxI; split <;> split <;> omega
  have hmn : minI 324000 (d + 15 * q) = boxTD d q := by unfold boxTD minI; split <;> split <;> omega
  have wr5 : IntKind.i64.wrap (d + 15 * q) = d + 15 * q := by rw [IntKind.wrap_i64]; omega
  go_enter Try.func48, Try.ntmps48
  go_wp2_with fail
  refine (impl_isStar_any s a d b f _ gs).mono ?_
  rintro e w1 ⟨rfl, hb1⟩
  have B1 : Bk w1 (w.heap.size + 1) 63 #[.int .i64 0, .int .i64 0, .int .i64 0, .int .i64 0] := by
    have h := (Bk.new (w.alloc (.cells #[.string s, .int .i64 a, .int .i64 d, .int .i64 b, .int .i64 f] 66)) 63 #[.int .i64 0, .int .i64 0, .int .i64 0, .int .i64 0]).below hb1 (by simp)
    rw [show (w.alloc (.cells #[.string s, .int .i64 a, .int .i64 d, .int .i64 b, .int .i64 f] 66)).heap.size = w.heap.size + 1 from by simp] at h
    exact h
  have B0 : Bk w1 w.heap.size 66 #[.string s, .int .i64 a, .int .i64 d, .int .i64 b, .int .i64 f] := ((Bk.new w 66 _).alloc _).below hb1 (by first | (simp; done) | (simp; omega))
  have g0 : w1.cell? ⟨w.heap.size + 1, 0, none⟩ = some (.int .i64 0) := B1.cell 0
  have g1 : w1.cell? ⟨w.heap.size + 1, 1, none⟩ = some (.int .i64 0) := B1.cell 1
  have g2 : w1.cell? ⟨w.heap.size + 1, 2, none⟩ = some (.int .i64 0) := B1.cell 2
  have g3 : w1.cell? ⟨w.heap.size + 1, 3, none⟩ = some (.int .i64 0) := B1.cell 3
  have q0 : w1.frozen? ⟨w.heap.size + 1, 0, none⟩ = false := B1.frozen 0
  have q1 : w1.frozen? ⟨w.heap.size + 1, 1, none⟩ = false := B1.frozen 1
  have q2 : w1.frozen? ⟨w.heap.size + 1, 2, none⟩ = false := B1.frozen 2
  have q3 : w1.frozen? ⟨w.heap.size + 1, 3, none⟩ = false := B1.frozen 3
  have x1 : w1.cell? ⟨w.heap.size, 1, none⟩ = some (.int .i64 a) := B0.cell 1
  have x2 : w1.cell? ⟨w.heap.size, 2, none⟩ = some (.int .i64 d) := B0.cell 2
  have HB := hide ((Below.refl w.heap.size w).trans (((Below.refl w.heap.size w).alloc (Nat.le_refl _) _).alloc (by first | (simp; done) | (simp; omega)) _ |>.trans (hb1.mono (by first | (simp; done) | (simp; omega)))))
  clear hb1
  go_wp2_with (go_at_call 58; refine (in_any _ _ _ _).mono ?_; rintro e w' ⟨rfl, rfl⟩)
  refine wp_region_held_drew (S := (fun w' => w'.cell? ⟨w.heap.size, 1, none⟩ = some (.int .i64 a) ∧ w'.cell? ⟨w.heap.size, 2, none⟩ = some (.int .i64 d))) (by kernel_rfl) ?_ (fun hHeld => ?_)
  · (try dsimp only); (go_keep)
  refine wpAnyH_take (i := 0) (v := ?_) rfl (by kernel_rfl) (by kernel_rfl) (by kernel_rfl) (fun _ _ _ h => h) (Or.inl ⟨by rfl, ?_⟩) (by assumption) ?_
  rotate_left
  · (intro w hSw; (try dsimp only at hSw); go_simp) <;> with_reducible rfl
  try simp only [Act.put, List.getElem_toArray, List.getElem_cons_succ, List.getElem_cons_zero, List.setIfInBounds_toArray, List.set_cons_zero, List.set_cons_succ]
  refine wpAnyH_take (i := 1) (v := ?_) rfl (by kernel_rfl) (by kernel_rfl) (by kernel_rfl) (fun _ _ _ h => h) (Or.inl ⟨by rfl, ?_⟩) (by assumption) ?_
  rotate_left
  · (intro w hSw; (try dsimp only at hSw); go_simp) <;> with_reducible rfl
  try simp only [Act.put, List.getElem_toArray, List.getElem_cons_succ, List.getElem_cons_zero, List.setIfInBounds_toArray, List.set_cons_zero, List.set_cons_succ]
  refine wpAnyH_take (i := 2) (v := ?_) rfl (by kernel_rfl) (by kernel_rfl) (by kernel_rfl) (fun _ _ _ h => h) (Or.inl ⟨by rfl, ?_⟩) (by assumption) ?_
  rotate_left
  · (intro w hSw; (try dsimp only at hSw); go_simp) <;> with_reducible rfl
  try simp only [Act.put, List.getElem_toArray, List.getElem_cons_succ, List.getElem_cons_zero, List.setIfInBounds_toArray, List.set_cons_zero, List.set_cons_succ]
  refine wpAnyH_take (i := 3) (v := ?_) rfl (by kernel_rfl) (by kernel_rfl) (by kernel_rfl) (fun _ _ _ h => h) (Or.inl ⟨by rfl, ?_⟩) (by assumption) ?_
  rotate_left
  · (intro w hSw; (try dsimp only at hSw); go_simp) <;> with_reducible rfl
  try simp only [Act.put, List.getElem_toArray, List.getElem_cons_succ, List.getElem_cons_zero, List.setIfInBounds_toArray, List.set_cons_zero, List.set_cons_succ]
  refine wpAnyH_take (i := 5) (v := ?_) rfl (by kernel_rfl) (by kernel_rfl) (by kernel_rfl) (fun _ _ _ h => h) (Or.inl ⟨by rfl, ?_⟩) (by assumption) ?_
  rotate_left
  · (intro w hSw; (try dsimp only at hSw); go_simp) <;> with_reducible rfl
  try simp only [Act.put, List.getElem_toArray, List.getElem_cons_succ, List.getElem_cons_zero, List.setIfInBounds_toArray, List.set_cons_zero, List.set_cons_succ]
  refine wpAnyH_take (i := 6) (v := ?_) rfl (by kernel_rfl) (by kernel_rfl) (by kernel_rfl) (fun _ _ _ h => h) (Or.inl ⟨by rfl, ?_⟩) (by assumption) ?_
  rotate_left
  · (intro w hSw; (try dsimp only at hSw); go_simp) <;> with_reducible rfl
  try simp only [Act.put, List.getElem_toArray, List.getElem_cons_succ, List.getElem_cons_zero, List.setIfInBounds_toArray, List.set_cons_zero, List.set_cons_succ]
  refine wpAnyH_take (i := 7) (v := ?_) rfl (by kernel_rfl) (by kernel_rfl) (by kernel_rfl) (fun _ _ _ h => h) (Or.inl ⟨by rfl, ?_⟩) (by assumption) ?_
  rotate_left
  · (intro w hSw; (try dsimp only at hSw); go_simp) <;> with_reducible rfl
  try simp only [Act.put, List.getElem_toArray, List.getElem_cons_succ, List.getElem_cons_zero, List.setIfInBounds_toArray, List.set_cons_zero, List.set_cons_succ]
  refine wpAnyH_take (i := 8) (v := ?_) rfl (by kernel_rfl) (by kernel_rfl) (by kernel_rfl) (fun _ _ _ h => h) (Or.inl ⟨by rfl, ?_⟩) (by assumption) ?_
  rotate_left
  · (intro w hSw; (try dsimp only at hSw); go_simp) <;> with_reducible rfl
  try simp only [Act.put, List.getElem_toArray, List.getElem_cons_succ, List.getElem_cons_zero, List.setIfInBounds_toArray, List.set_cons_zero, List.set_cons_succ]
  refine wpAnyH_take (i := 10) (v := ?_) rfl (by kernel_rfl) (by kernel_rfl) (by kernel_rfl) (fun _ _ _ h => h) (Or.inl ⟨by rfl, ?_⟩) (by assumption) ?_
  rotate_left
  · (intro w hSw; (try dsimp only at hSw); go_simp) <;> with_reducible rfl
  try simp only [Act.put, List.getElem_toArray, List.getElem_cons_succ, List.getElem_cons_zero, List.setIfInBounds_toArray, List.set_cons_zero, List.set_cons_succ]
  refine wpAnyH_take (i := 11) (v := ?_) rfl (by kernel_rfl) (by kernel_rfl) (by kernel_rfl) (fun _ _ _ h => h) (Or.inl ⟨by rfl, ?_⟩) (by assumption) ?_
  rotate_left
  · (intro w hSw; (try dsimp only at hSw); go_simp) <;> with_reducible rfl
  try simp only [Act.put, List.getElem_toArray, List.getElem_cons_succ, List.getElem_cons_zero, List.setIfInBounds_toArray, List.set_cons_zero, List.set_cons_succ]
  refine wpAnyH_take (i := 12) (v := ?_) rfl (by kernel_rfl) (by kernel_rfl) (by kernel_rfl) (fun _ _ _ h => h) (Or.inl ⟨by rfl, ?_⟩) (by assumption) ?_
  rotate_left
  · (intro w hSw; (try dsimp only at hSw); go_simp) <;> with_reducible rfl
  try simp only [Act.put, List.getElem_toArray, List.getElem_cons_succ, List.getElem_cons_zero, List.setIfInBounds_toArray, List.set_cons_zero, List.set_cons_succ]
  refine wpAnyH_take (i := 13) (v := ?_) rfl (by kernel_rfl) (by kernel_rfl) (by kernel_rfl) (fun _ _ _ h => h) (Or.inl ⟨by rfl, ?_⟩) (by assumption) ?_
  rotate_left
  · (intro w hSw; (try dsimp only at hSw); go_simp) <;> with_reducible rfl
  try simp only [Act.put, List.getElem_toArray, List.getElem_cons_succ, List.getElem_cons_zero, List.setIfInBounds_toArray, List.set_cons_zero, List.set_cons_succ]
  refine wpAnyH_take (i := 14) (v := ?_) rfl (by kernel_rfl) (by kernel_rfl) (by kernel_rfl) (fun _ _ _ h => h) (Or.inl ⟨by rfl, ?_⟩) (by assumption) ?_
  rotate_left
  · (intro w hSw; (try dsimp only at hSw); go_simp) <;> with_reducible rfl
  try simp only [Act.put, List.getElem_toArray, List.getElem_cons_succ, List.getElem_cons_zero, List.setIfInBounds_toArray, List.set_cons_zero, List.set_cons_succ]
  refine wpAnyH_take (i := 15) (v := ?_) rfl (by kernel_rfl) (by kernel_rfl) (by kernel_rfl) (fun _ _ _ h => h) (Or.inl ⟨by rfl, ?_⟩) (by assumption) ?_
  rotate_left
  · (intro w hSw; (try dsimp only at hSw); go_simp) <;> with_reducible rfl
  try simp only [Act.put, List.getElem_toArray, List.getElem_cons_succ, List.getElem_cons_zero, List.setIfInBounds_toArray, List.set_cons_zero, List.set_cons_succ]
  refine wpAnyH_take (i := 16) (v := ?_) rfl (by kernel_rfl) (by kernel_rfl) (by kernel_rfl) (fun _ _ _ h => h) (Or.inl ⟨by rfl, ?_⟩) (by assumption) ?_
  rotate_left
  · (intro w hSw; (try dsimp only at hSw); go_simp) <;> with_reducible rfl
  try simp only [Act.put, List.getElem_toArray, List.getElem_cons_succ, List.getElem_cons_zero, List.setIfInBounds_toArray, List.set_cons_zero, List.set_cons_succ]
  refine wpAnyH_take (i := 17) (v := ?_) rfl (by kernel_rfl) (by kernel_rfl) (by kernel_rfl) (fun _ _ _ h => h) (Or.inl ⟨by rfl, ?_⟩) (by assumption) ?_
  rotate_left
  · (intro w hSw; (try dsimp only at hSw); go_simp) <;> with_reducible rfl
  try simp only [Act.put, List.getElem_toArray, List.getElem_cons_succ, List.getElem_cons_zero, List.setIfInBounds_toArray, List.set_cons_zero, List.set_cons_succ]
  refine wpAnyH_take (i := 18) (v := ?_) rfl (by kernel_rfl) (by kernel_rfl) (by kernel_rfl) (fun _ _ _ h => h) (Or.inl ⟨by rfl, ?_⟩) (by assumption) ?_
  rotate_left
  · (intro w hSw; (try dsimp only at hSw); go_simp) <;> with_reducible rfl
  try simp only [Act.put, List.getElem_toArray, List.getElem_cons_succ, List.getElem_cons_zero, List.setIfInBounds_toArray, List.set_cons_zero, List.set_cons_succ]
  refine wpAnyH_take (i := 19) (v := ?_) rfl (by kernel_rfl) (by kernel_rfl) (by kernel_rfl) (fun _ _ _ h => h) (Or.inl ⟨by rfl, ?_⟩) (by assumption) ?_
  rotate_left
  · (intro w hSw; (try dsimp only at hSw); go_simp) <;> with_reducible rfl
  try simp only [Act.put, List.getElem_toArray, List.getElem_cons_succ, List.getElem_cons_zero, List.setIfInBounds_toArray, List.set_cons_zero, List.set_cons_succ]
  refine wpAnyH_take (i := 20) (v := ?_) rfl (by kernel_rfl) (by kernel_rfl) (by kernel_rfl) (fun _ _ _ h => h) (Or.inl ⟨by rfl, ?_⟩) (by assumption) ?_
  rotate_left
  · (intro w hSw; (try dsimp only at hSw); go_simp) <;> with_reducible rfl
  try simp only [Act.put, List.getElem_toArray, List.getElem_cons_succ, List.getElem_cons_zero, List.setIfInBounds_toArray, List.set_cons_zero, List.set_cons_succ]
  refine wpAnyH_take (i := 21) (v := ?_) rfl (by kernel_rfl) (by kernel_rfl) (by kernel_rfl) (fun _ _ _ h => h) (Or.inl ⟨by rfl, ?_⟩) (by assumption) ?_
  rotate_left
  · (intro w hSw; (try dsimp only at hSw); go_simp) <;> with_reducible rfl
  try simp only [Act.put, List.getElem_toArray, List.getElem_cons_succ, List.getElem_cons_zero, List.setIfInBounds_toArray, List.set_cons_zero, List.set_cons_succ]
  refine wpAnyH_ready (rs := [4]) (by kernel_rfl) (by simp) ?_
  refine AllReadyH.cons rfl (fun K hK => ?_) AllReadyH.nil
  go_simp
  go_at_call 91; refine (mod_any _ _ (by omega) (by omega)).mono ?_; rintro e w' ⟨rfl, rfl⟩
  try go_wp2_with fail
  refine hK.out _ _ ?_ (fun hHeld => ?_)
  · (try dsimp only); (go_keep)
  clear hK K
  try simp only [Act.put, List.getElem_toArray, List.getElem_cons_succ, List.getElem_cons_zero, List.setIfInBounds_toArray, List.set_cons_zero, List.set_cons_succ]
  refine wpAnyH_ready (rs := [9]) (by kernel_rfl) (by simp) ?_
  refine AllReadyH.cons rfl (fun K hK => ?_) AllReadyH.nil
  go_simp
  go_at_call 91; refine (mod_any _ _ (by omega) (by omega)).mono ?_; rintro e w' ⟨rfl, rfl⟩
  try go_wp2_with fail
  refine hK.out _ _ ?_ (fun hHeld => ?_)
  · (try dsimp only); (go_keep)
  clear hK K
  try simp only [Act.put, List.getElem_toArray, List.getElem_cons_succ, List.getElem_cons_zero, List.setIfInBounds_toArray, List.set_cons_zero, List.set_cons_succ]
  refine wpAnyH_take (i := 22) (v := ?_) rfl (by kernel_rfl) (by kernel_rfl) (by kernel_rfl) (fun _ _ _ h => h) (Or.inl ⟨by rfl, ?_⟩) (by assumption) ?_
  rotate_left
  · (intro w hSw; (try dsimp only at hSw); go_simp) <;> with_reducible rfl
  try simp only [Act.put, List.getElem_toArray, List.getElem_cons_succ, List.getElem_cons_zero, List.setIfInBounds_toArray, List.set_cons_zero, List.set_cons_succ]
  refine wpAnyH_ready (rs := [23]) (by kernel_rfl) (by simp) ?_
  refine AllReadyH.cons rfl (fun K hK => ?_) AllReadyH.nil
  go_simp
  refine hK.out _ _ ?_ (fun hHeld => ?_)
  · (try dsimp only); (go_keep)
  clear hK K
  try simp only [Act.put, List.getElem_toArray, List.getElem_cons_succ, List.getElem_cons_zero, List.setIfInBounds_toArray, List.set_cons_zero, List.set_cons_succ]
  refine wpAnyH_take (i := 24) (v := ?_) rfl (by kernel_rfl) (by kernel_rfl) (by kernel_rfl) (fun _ _ _ h => h) (Or.inl ⟨by rfl, ?_⟩) (by assumption) ?_
  rotate_left
  · (intro w hSw; (try dsimp only at hSw); go_simp) <;> with_reducible rfl
  try simp only [Act.put, List.getElem_toArray, List.getElem_cons_succ, List.getElem_cons_zero, List.setIfInBounds_toArray, List.set_cons_zero, List.set_cons_succ]
  refine wpAnyH_done (by kernel_rfl) ?_ _
  go_wp2
  all_goals exact bodyPost_ret (v := boxOf s a d b f q) (by rw [boxOf, if_pos (by simp [boxB, h1, h2])]; simp [results, Try.results48, go_sem, *, boxFA, boxTA]) rfl ⟨rfl, (by have HBo := HB.out; exact (by repeat (first | exact Below.refl _ _ | assumption | refine Below.drew ?_ | refine below_drewN ?_ _ | refine Below.alloc ?_ (by first | omega | (simp; done) | (simp; omega)) _ | refine Below.setCell ?_ (by first | omega | (simp; done) | (simp; omega)) _ | refine Below.trans ?_ (Below.mono (by assumption) (by first | omega | (simp; done) | (simp; omega))))))⟩
set_option maxHeartbeats 2000000 in
set_option maxRecDepth 100000 in
theorem spec_BoxAround_any (s : ByteArray) (a d b f q : Int) (w : World) (gs : s.size ≤ maxLen) : Calls Try.prog 46 #[.agg #[.string s, .int .i64 a, .int .i64 d, .int .i64 b, .int .i64 f], .int .i64 q] w fun e w' => e = .returned (boxOf s a d b f q) ∧ Below w.heap.size w w' := by
  cases h1 : starB s a d b f
  · go_enter Try.func46, Try.ntmps46
    go_wp2_with fail
    refine (spec_l04One_any s a d b f _ gs _ _ (by simp [go_sem]) (by simp [go_sem]) (by simp [go_sem]) (by simp [go_sem]) (by simp [go_sem])).mono ?_
    rintro e w1 ⟨rfl, n1, hw1⟩
    have hb1 : Below ((w.alloc (.cells #[.string s, .int .i64 a, .int .i64 d, .int .i64 b, .int .i64 f] 66)).alloc (.cells #[.int .i64 0, .int .i64 0, .int .i64 0, .int .i64 0] 63)).heap.size ((w.alloc (.cells #[.string s, .int .i64 a, .int .i64 d, .int .i64 b, .int .i64 f] 66)).alloc (.cells #[.int .i64 0, .int .i64 0, .int .i64 0, .int .i64 0] 63)) w1 := by rw [hw1]; exact below_drewN (Below.refl _ _) _
    clear hw1
    have B1 : Bk w1 (w.heap.size + 1) 63 #[.int .i64 0, .int .i64 0, .int .i64 0, .int .i64 0] := by
      have h := (Bk.new (w.alloc (.cells #[.string s, .int .i64 a, .int .i64 d, .int .i64 b, .int .i64 f] 66)) 63 #[.int .i64 0, .int .i64 0, .int .i64 0, .int .i64 0]).below hb1 (by simp)
      rw [show (w.alloc (.cells #[.string s, .int .i64 a, .int .i64 d, .int .i64 b, .int .i64 f] 66)).heap.size = w.heap.size + 1 from by simp] at h
      exact h
    have B0 : Bk w1 w.heap.size 66 #[.string s, .int .i64 a, .int .i64 d, .int .i64 b, .int .i64 f] := ((Bk.new w 66 _).alloc _).below hb1 (by first | (simp; done) | (simp; omega))
    have g0 : w1.cell? ⟨w.heap.size + 1, 0, none⟩ = some (.int .i64 0) := B1.cell 0
    have g1 : w1.cell? ⟨w.heap.size + 1, 1, none⟩ = some (.int .i64 0) := B1.cell 1
    have g2 : w1.cell? ⟨w.heap.size + 1, 2, none⟩ = some (.int .i64 0) := B1.cell 2
    have g3 : w1.cell? ⟨w.heap.size + 1, 3, none⟩ = some (.int .i64 0) := B1.cell 3
    have q0 : w1.frozen? ⟨w.heap.size + 1, 0, none⟩ = false := B1.frozen 0
    have q1 : w1.frozen? ⟨w.heap.size + 1, 1, none⟩ = false := B1.frozen 1
    have q2 : w1.frozen? ⟨w.heap.size + 1, 2, none⟩ = false := B1.frozen 2
    have q3 : w1.frozen? ⟨w.heap.size + 1, 3, none⟩ = false := B1.frozen 3
    have x1 : w1.cell? ⟨w.heap.size, 1, none⟩ = some (.int .i64 a) := B0.cell 1
    have x2 : w1.cell? ⟨w.heap.size, 2, none⟩ = some (.int .i64 d) := B0.cell 2
    have HB := hide ((Below.refl w.heap.size w).trans (((Below.refl w.heap.size w).alloc (Nat.le_refl _) _).alloc (by first | (simp; done) | (simp; omega)) _ |>.trans (hb1.mono (by first | (simp; done) | (simp; omega)))))
    clear hb1
    go_wp2_with (go_at_call 88; refine (l00In_any _ _ _ _).mono ?_; rintro e w' ⟨rfl, rfl⟩)
    exact bodyPost_ret (v := .tuple #[.agg #[.int .i64 0, .int .i64 0, .int .i64 0, .int .i64 0], .int .i64 2]) (by simp [results, Try.results46, go_sem, *]) rfl ⟨retv (by simp [boxOf, boxB, h1]), (by have HBo := HB.out; exact (by repeat (first | exact Below.refl _ _ | assumption | refine Below.drew ?_ | refine below_drewN ?_ _ | refine Below.alloc ?_ (by first | omega | (simp; done) | (simp; omega)) _ | refine Below.setCell ?_ (by first | omega | (simp; done) | (simp; omega)) _ | refine Below.trans ?_ (Below.mono (by assumption) (by first | omega | (simp; done) | (simp; omega))))))⟩
  cases h2 : inB q 0 40000
  · go_enter Try.func46, Try.ntmps46
    go_wp2_with fail
    refine (spec_l04One_any s a d b f _ gs _ _ (by simp [go_sem]) (by simp [go_sem]) (by simp [go_sem]) (by simp [go_sem]) (by simp [go_sem])).mono ?_
    rintro e w1 ⟨rfl, n1, hw1⟩
    have hb1 : Below ((w.alloc (.cells #[.string s, .int .i64 a, .int .i64 d, .int .i64 b, .int .i64 f] 66)).alloc (.cells #[.int .i64 0, .int .i64 0, .int .i64 0, .int .i64 0] 63)).heap.size ((w.alloc (.cells #[.string s, .int .i64 a, .int .i64 d, .int .i64 b, .int .i64 f] 66)).alloc (.cells #[.int .i64 0, .int .i64 0, .int .i64 0, .int .i64 0] 63)) w1 := by rw [hw1]; exact below_drewN (Below.refl _ _) _
    clear hw1
    have B1 : Bk w1 (w.heap.size + 1) 63 #[.int .i64 0, .int .i64 0, .int .i64 0, .int .i64 0] := by
      have h := (Bk.new (w.alloc (.cells #[.string s, .int .i64 a, .int .i64 d, .int .i64 b, .int .i64 f] 66)) 63 #[.int .i64 0, .int .i64 0, .int .i64 0, .int .i64 0]).below hb1 (by simp)
      rw [show (w.alloc (.cells #[.string s, .int .i64 a, .int .i64 d, .int .i64 b, .int .i64 f] 66)).heap.size = w.heap.size + 1 from by simp] at h
      exact h
    have B0 : Bk w1 w.heap.size 66 #[.string s, .int .i64 a, .int .i64 d, .int .i64 b, .int .i64 f] := ((Bk.new w 66 _).alloc _).below hb1 (by first | (simp; done) | (simp; omega))
    have g0 : w1.cell? ⟨w.heap.size + 1, 0, none⟩ = some (.int .i64 0) := B1.cell 0
    have g1 : w1.cell? ⟨w.heap.size + 1, 1, none⟩ = some (.int .i64 0) := B1.cell 1
    have g2 : w1.cell? ⟨w.heap.size + 1, 2, none⟩ = some (.int .i64 0) := B1.cell 2
    have g3 : w1.cell? ⟨w.heap.size + 1, 3, none⟩ = some (.int .i64 0) := B1.cell 3
    have q0 : w1.frozen? ⟨w.heap.size + 1, 0, none⟩ = false := B1.frozen 0
    have q1 : w1.frozen? ⟨w.heap.size + 1, 1, none⟩ = false := B1.frozen 1
    have q2 : w1.frozen? ⟨w.heap.size + 1, 2, none⟩ = false := B1.frozen 2
    have q3 : w1.frozen? ⟨w.heap.size + 1, 3, none⟩ = false := B1.frozen 3
    have x1 : w1.cell? ⟨w.heap.size, 1, none⟩ = some (.int .i64 a) := B0.cell 1
    have x2 : w1.cell? ⟨w.heap.size, 2, none⟩ = some (.int .i64 d) := B0.cell 2
    have HB := hide ((Below.refl w.heap.size w).trans (((Below.refl w.heap.size w).alloc (Nat.le_refl _) _).alloc (by first | (simp; done) | (simp; omega)) _ |>.trans (hb1.mono (by first | (simp; done) | (simp; omega)))))
    clear hb1
    go_wp2_with (go_at_call 88; refine (l00In_any _ _ _ _).mono ?_; rintro e w' ⟨rfl, rfl⟩)
    exact bodyPost_ret (v := .tuple #[.agg #[.int .i64 0, .int .i64 0, .int .i64 0, .int .i64 0], .int .i64 2]) (by simp [results, Try.results46, go_sem, *]) rfl ⟨retv (by simp [boxOf, boxB, h2]), (by have HBo := HB.out; exact (by repeat (first | exact Below.refl _ _ | assumption | refine Below.drew ?_ | refine below_drewN ?_ _ | refine Below.alloc ?_ (by first | omega | (simp; done) | (simp; omega)) _ | refine Below.setCell ?_ (by first | omega | (simp; done) | (simp; omega)) _ | refine Below.trans ?_ (Below.mono (by assumption) (by first | omega | (simp; done) | (simp; omega))))))⟩
  obtain ⟨a1, a2, d1, d2⟩ := star_true h1
  obtain ⟨z1, z2⟩ := inB_true h2
  have wr1 : IntKind.i64.wrap (a - q) = a - q := by rw [IntKind.wrap_i64]; omega
  have wr2 : IntKind.i64.wrap (a + q) = a + q := by rw [IntKind.wrap_i64]; omega
  have wr3 : IntKind.i64.wrap (15 * q) = 15 * q := by rw [IntKind.wrap_i64]; omega
  have wr4 : IntKind.i64.wrap (d - 15 * q) = d - 15 * q := by rw [IntKind.wrap_i64]; omega
  have hfd : (if d - 15 * q < -324000 then (-324000 : Int) else d - 15 * q) = boxFD d q := by unfold boxFD maxI; split <;> split <;> omega
  have htd1 : (if 324000 < d + 15 * q then (324000 : Int) else d + 15 * q) = boxTD d q := by unfold boxTD minI; split <;> split <;> omega
  have htd2 : (if d + 15 * q < 324000 then d + 15 * q else (324000 : Int)) = boxTD d q := rfl
  have hmx : maxI (-324000) (d - 15 * q) = boxFD d q := by unfold boxFD maxI; split <;> split <;> omega
  have hmn : minI 324000 (d + 15 * q) = boxTD d q := by unfold boxTD minI; split <;> split <;> omega
  have wr5 : IntKind.i64.wrap (d + 15 * q) = d + 15 * q := by rw [IntKind.wrap_i64]; omega
  go_enter Try.func46, Try.ntmps46
  go_wp2_with fail
  refine (spec_l04One_any s a d b f _ gs _ _ (by simp [go_sem]) (by simp [go_sem]) (by simp [go_sem]) (by simp [go_sem]) (by simp [go_sem])).mono ?_
  rintro e w1 ⟨rfl, n1, hw1⟩
  have hb1 : Below ((w.alloc (.cells #[.string s, .int .i64 a, .int .i64 d, .int .i64 b, .int .i64 f] 66)).alloc (.cells #[.int .i64 0, .int .i64 0, .int .i64 0, .int .i64 0] 63)).heap.size ((w.alloc (.cells #[.string s, .int .i64 a, .int .i64 d, .int .i64 b, .int .i64 f] 66)).alloc (.cells #[.int .i64 0, .int .i64 0, .int .i64 0, .int .i64 0] 63)) w1 := by rw [hw1]; exact below_drewN (Below.refl _ _) _
  clear hw1
  have B1 : Bk w1 (w.heap.size + 1) 63 #[.int .i64 0, .int .i64 0, .int .i64 0, .int .i64 0] := by
    have h := (Bk.new (w.alloc (.cells #[.string s, .int .i64 a, .int .i64 d, .int .i64 b, .int .i64 f] 66)) 63 #[.int .i64 0, .int .i64 0, .int .i64 0, .int .i64 0]).below hb1 (by simp)
    rw [show (w.alloc (.cells #[.string s, .int .i64 a, .int .i64 d, .int .i64 b, .int .i64 f] 66)).heap.size = w.heap.size + 1 from by simp] at h
    exact h
  have B0 : Bk w1 w.heap.size 66 #[.string s, .int .i64 a, .int .i64 d, .int .i64 b, .int .i64 f] := ((Bk.new w 66 _).alloc _).below hb1 (by first | (simp; done) | (simp; omega))
  have g0 : w1.cell? ⟨w.heap.size + 1, 0, none⟩ = some (.int .i64 0) := B1.cell 0
  have g1 : w1.cell? ⟨w.heap.size + 1, 1, none⟩ = some (.int .i64 0) := B1.cell 1
  have g2 : w1.cell? ⟨w.heap.size + 1, 2, none⟩ = some (.int .i64 0) := B1.cell 2
  have g3 : w1.cell? ⟨w.heap.size + 1, 3, none⟩ = some (.int .i64 0) := B1.cell 3
  have q0 : w1.frozen? ⟨w.heap.size + 1, 0, none⟩ = false := B1.frozen 0
  have q1 : w1.frozen? ⟨w.heap.size + 1, 1, none⟩ = false := B1.frozen 1
  have q2 : w1.frozen? ⟨w.heap.size + 1, 2, none⟩ = false := B1.frozen 2
  have q3 : w1.frozen? ⟨w.heap.size + 1, 3, none⟩ = false := B1.frozen 3
  have x1 : w1.cell? ⟨w.heap.size, 1, none⟩ = some (.int .i64 a) := B0.cell 1
  have x2 : w1.cell? ⟨w.heap.size, 2, none⟩ = some (.int .i64 d) := B0.cell 2
  have HB := hide ((Below.refl w.heap.size w).trans (((Below.refl w.heap.size w).alloc (Nat.le_refl _) _).alloc (by first | (simp; done) | (simp; omega)) _ |>.trans (hb1.mono (by first | (simp; done) | (simp; omega)))))
  clear hb1
  go_wp2_with (go_at_call 88; refine (l00In_any _ _ _ _).mono ?_; rintro e w' ⟨rfl, rfl⟩)
  refine wp_region_held_drew (S := (fun w' => w'.cell? ⟨w.heap.size, 1, none⟩ = some (.int .i64 a) ∧ w'.cell? ⟨w.heap.size, 2, none⟩ = some (.int .i64 d))) (by kernel_rfl) ?_ (fun hHeld => ?_)
  · (try dsimp only); (go_keep)
  refine wpAnyH_take (i := 0) (v := ?_) rfl (by kernel_rfl) (by kernel_rfl) (by kernel_rfl) (fun _ _ _ h => h) (Or.inl ⟨by rfl, ?_⟩) (by assumption) ?_
  rotate_left
  · (intro w hSw; (try dsimp only at hSw); go_simp) <;> with_reducible rfl
  try simp only [Act.put, List.getElem_toArray, List.getElem_cons_succ, List.getElem_cons_zero, List.setIfInBounds_toArray, List.set_cons_zero, List.set_cons_succ]
  refine wpAnyH_take (i := 1) (v := ?_) rfl (by kernel_rfl) (by kernel_rfl) (by kernel_rfl) (fun _ _ _ h => h) (Or.inl ⟨by rfl, ?_⟩) (by assumption) ?_
  rotate_left
  · (intro w hSw; (try dsimp only at hSw); go_simp) <;> with_reducible rfl
  try simp only [Act.put, List.getElem_toArray, List.getElem_cons_succ, List.getElem_cons_zero, List.setIfInBounds_toArray, List.set_cons_zero, List.set_cons_succ]
  refine wpAnyH_take (i := 2) (v := ?_) rfl (by kernel_rfl) (by kernel_rfl) (by kernel_rfl) (fun _ _ _ h => h) (Or.inl ⟨by rfl, ?_⟩) (by assumption) ?_
  rotate_left
  · (intro w hSw; (try dsimp only at hSw); go_simp) <;> with_reducible rfl
  try simp only [Act.put, List.getElem_toArray, List.getElem_cons_succ, List.getElem_cons_zero, List.setIfInBounds_toArray, List.set_cons_zero, List.set_cons_succ]
  refine wpAnyH_take (i := 3) (v := ?_) rfl (by kernel_rfl) (by kernel_rfl) (by kernel_rfl) (fun _ _ _ h => h) (Or.inl ⟨by rfl, ?_⟩) (by assumption) ?_
  rotate_left
  · (intro w hSw; (try dsimp only at hSw); go_simp) <;> with_reducible rfl
  try simp only [Act.put, List.getElem_toArray, List.getElem_cons_succ, List.getElem_cons_zero, List.setIfInBounds_toArray, List.set_cons_zero, List.set_cons_succ]
  refine wpAnyH_take (i := 5) (v := ?_) rfl (by kernel_rfl) (by kernel_rfl) (by kernel_rfl) (fun _ _ _ h => h) (Or.inl ⟨by rfl, ?_⟩) (by assumption) ?_
  rotate_left
  · (intro w hSw; (try dsimp only at hSw); go_simp) <;> with_reducible rfl
  try simp only [Act.put, List.getElem_toArray, List.getElem_cons_succ, List.getElem_cons_zero, List.setIfInBounds_toArray, List.set_cons_zero, List.set_cons_succ]
  refine wpAnyH_take (i := 6) (v := ?_) rfl (by kernel_rfl) (by kernel_rfl) (by kernel_rfl) (fun _ _ _ h => h) (Or.inl ⟨by rfl, ?_⟩) (by assumption) ?_
  rotate_left
  · (intro w hSw; (try dsimp only at hSw); go_simp) <;> with_reducible rfl
  try simp only [Act.put, List.getElem_toArray, List.getElem_cons_succ, List.getElem_cons_zero, List.setIfInBounds_toArray, List.set_cons_zero, List.set_cons_succ]
  refine wpAnyH_take (i := 7) (v := ?_) rfl (by kernel_rfl) (by kernel_rfl) (by kernel_rfl) (fun _ _ _ h => h) (Or.inl ⟨by rfl, ?_⟩) (by assumption) ?_
  rotate_left
  · (intro w hSw; (try dsimp only at hSw); go_simp) <;> with_reducible rfl
  try simp only [Act.put, List.getElem_toArray, List.getElem_cons_succ, List.getElem_cons_zero, List.setIfInBounds_toArray, List.set_cons_zero, List.set_cons_succ]
  refine wpAnyH_take (i := 8) (v := ?_) rfl (by kernel_rfl) (by kernel_rfl) (by kernel_rfl) (fun _ _ _ h => h) (Or.inl ⟨by rfl, ?_⟩) (by assumption) ?_
  rotate_left
  · (intro w hSw; (try dsimp only at hSw); go_simp) <;> with_reducible rfl
  try simp only [Act.put, List.getElem_toArray, List.getElem_cons_succ, List.getElem_cons_zero, List.setIfInBounds_toArray, List.set_cons_zero, List.set_cons_succ]
  refine wpAnyH_take (i := 10) (v := ?_) rfl (by kernel_rfl) (by kernel_rfl) (by kernel_rfl) (fun _ _ _ h => h) (Or.inl ⟨by rfl, ?_⟩) (by assumption) ?_
  rotate_left
  · (intro w hSw; (try dsimp only at hSw); go_simp) <;> with_reducible rfl
  try simp only [Act.put, List.getElem_toArray, List.getElem_cons_succ, List.getElem_cons_zero, List.setIfInBounds_toArray, List.set_cons_zero, List.set_cons_succ]
  refine wpAnyH_take (i := 11) (v := ?_) rfl (by kernel_rfl) (by kernel_rfl) (by kernel_rfl) (fun _ _ _ h => h) (Or.inl ⟨by rfl, ?_⟩) (by assumption) ?_
  rotate_left
  · (intro w hSw; (try dsimp only at hSw); go_simp) <;> with_reducible rfl
  try simp only [Act.put, List.getElem_toArray, List.getElem_cons_succ, List.getElem_cons_zero, List.setIfInBounds_toArray, List.set_cons_zero, List.set_cons_succ]
  refine wpAnyH_take (i := 12) (v := ?_) rfl (by kernel_rfl) (by kernel_rfl) (by kernel_rfl) (fun _ _ _ h => h) (Or.inl ⟨by rfl, ?_⟩) (by assumption) ?_
  rotate_left
  · (intro w hSw; (try dsimp only at hSw); go_simp) <;> with_reducible rfl
  try simp only [Act.put, List.getElem_toArray, List.getElem_cons_succ, List.getElem_cons_zero, List.setIfInBounds_toArray, List.set_cons_zero, List.set_cons_succ]
  refine wpAnyH_take (i := 13) (v := ?_) rfl (by kernel_rfl) (by kernel_rfl) (by kernel_rfl) (fun _ _ _ h => h) (Or.inl ⟨by rfl, ?_⟩) (by assumption) ?_
  rotate_left
  · (intro w hSw; (try dsimp only at hSw); go_simp) <;> with_reducible rfl
  try simp only [Act.put, List.getElem_toArray, List.getElem_cons_succ, List.getElem_cons_zero, List.setIfInBounds_toArray, List.set_cons_zero, List.set_cons_succ]
  refine wpAnyH_take (i := 14) (v := ?_) rfl (by kernel_rfl) (by kernel_rfl) (by kernel_rfl) (fun _ _ _ h => h) (Or.inl ⟨by rfl, ?_⟩) (by assumption) ?_
  rotate_left
  · (intro w hSw; (try dsimp only at hSw); go_simp) <;> with_reducible rfl
  try simp only [Act.put, List.getElem_toArray, List.getElem_cons_succ, List.getElem_cons_zero, List.setIfInBounds_toArray, List.set_cons_zero, List.set_cons_succ]
  refine wpAnyH_take (i := 16) (v := ?_) rfl (by kernel_rfl) (by kernel_rfl) (by kernel_rfl) (fun _ _ _ h => h) (Or.inl ⟨by rfl, ?_⟩) (by assumption) ?_
  rotate_left
  · (intro w hSw; (try dsimp only at hSw); go_simp) <;> with_reducible rfl
  try simp only [Act.put, List.getElem_toArray, List.getElem_cons_succ, List.getElem_cons_zero, List.setIfInBounds_toArray, List.set_cons_zero, List.set_cons_succ]
  refine wpAnyH_take (i := 17) (v := ?_) rfl (by kernel_rfl) (by kernel_rfl) (by kernel_rfl) (fun _ _ _ h => h) (Or.inl ⟨by rfl, ?_⟩) (by assumption) ?_
  rotate_left
  · (intro w hSw; (try dsimp only at hSw); go_simp) <;> with_reducible rfl
  try simp only [Act.put, List.getElem_toArray, List.getElem_cons_succ, List.getElem_cons_zero, List.setIfInBounds_toArray, List.set_cons_zero, List.set_cons_succ]
  refine wpAnyH_take (i := 18) (v := ?_) rfl (by kernel_rfl) (by kernel_rfl) (by kernel_rfl) (fun _ _ _ h => h) (Or.inl ⟨by rfl, ?_⟩) (by assumption) ?_
  rotate_left
  · (intro w hSw; (try dsimp only at hSw); go_simp) <;> with_reducible rfl
  try simp only [Act.put, List.getElem_toArray, List.getElem_cons_succ, List.getElem_cons_zero, List.setIfInBounds_toArray, List.set_cons_zero, List.set_cons_succ]
  refine wpAnyH_take (i := 19) (v := ?_) rfl (by kernel_rfl) (by kernel_rfl) (by kernel_rfl) (fun _ _ _ h => h) (Or.inl ⟨by rfl, ?_⟩) (by assumption) ?_
  rotate_left
  · (intro w hSw; (try dsimp only at hSw); go_simp) <;> with_reducible rfl
  try simp only [Act.put, List.getElem_toArray, List.getElem_cons_succ, List.getElem_cons_zero, List.setIfInBounds_toArray, List.set_cons_zero, List.set_cons_succ]
  refine wpAnyH_take (i := 20) (v := ?_) rfl (by kernel_rfl) (by kernel_rfl) (by kernel_rfl) (fun _ _ _ h => h) (Or.inl ⟨by rfl, ?_⟩) (by assumption) ?_
  rotate_left
  · (intro w hSw; (try dsimp only at hSw); go_simp) <;> with_reducible rfl
  try simp only [Act.put, List.getElem_toArray, List.getElem_cons_succ, List.getElem_cons_zero, List.setIfInBounds_toArray, List.set_cons_zero, List.set_cons_succ]
  refine wpAnyH_ready (rs := [4]) (by kernel_rfl) (by simp) ?_
  refine AllReadyH.cons rfl (fun K hK => ?_) AllReadyH.nil
  go_simp
  go_at_call 89; refine (l04Around_any _ _ (by omega) (by omega)).mono ?_; rintro e w' ⟨rfl, rfl⟩
  try go_wp2_with fail
  refine hK.out _ _ ?_ (fun hHeld => ?_)
  · (try dsimp only); (go_keep)
  clear hK K
  try simp only [Act.put, List.getElem_toArray, List.getElem_cons_succ, List.getElem_cons_zero, List.setIfInBounds_toArray, List.set_cons_zero, List.set_cons_succ]
  refine wpAnyH_ready (rs := [9]) (by kernel_rfl) (by simp) ?_
  refine AllReadyH.cons rfl (fun K hK => ?_) AllReadyH.nil
  go_simp
  go_at_call 89; refine (l04Around_any _ _ (by omega) (by omega)).mono ?_; rintro e w' ⟨rfl, rfl⟩
  try go_wp2_with fail
  refine hK.out _ _ ?_ (fun hHeld => ?_)
  · (try dsimp only); (go_keep)
  clear hK K
  try simp only [Act.put, List.getElem_toArray, List.getElem_cons_succ, List.getElem_cons_zero, List.setIfInBounds_toArray, List.set_cons_zero, List.set_cons_succ]
  refine wpAnyH_ready (rs := [15]) (by kernel_rfl) (by simp) ?_
  refine AllReadyH.cons rfl (fun K hK => ?_) AllReadyH.nil
  go_simp
  go_at_call 61; refine (l00Max_any _ _ _).mono ?_; rintro e w' ⟨rfl, rfl⟩
  try go_wp2_with fail
  refine hK.out _ _ ?_ (fun hHeld => ?_)
  · (try dsimp only); (go_keep)
  clear hK K
  try simp only [Act.put, List.getElem_toArray, List.getElem_cons_succ, List.getElem_cons_zero, List.setIfInBounds_toArray, List.set_cons_zero, List.set_cons_succ]
  refine wpAnyH_ready (rs := [21]) (by kernel_rfl) (by simp) ?_
  refine AllReadyH.cons rfl (fun K hK => ?_) AllReadyH.nil
  go_simp
  go_at_call 70; refine (l00Min_any _ _ _).mono ?_; rintro e w' ⟨rfl, rfl⟩
  try go_wp2_with fail
  refine hK.out _ _ ?_ (fun hHeld => ?_)
  · (try dsimp only); (go_keep)
  clear hK K
  try simp only [Act.put, List.getElem_toArray, List.getElem_cons_succ, List.getElem_cons_zero, List.setIfInBounds_toArray, List.set_cons_zero, List.set_cons_succ]
  refine wpAnyH_take (i := 22) (v := ?_) rfl (by kernel_rfl) (by kernel_rfl) (by kernel_rfl) (fun _ _ _ h => h) (Or.inl ⟨by rfl, ?_⟩) (by assumption) ?_
  rotate_left
  · (intro w hSw; (try dsimp only at hSw); go_simp) <;> with_reducible rfl
  try simp only [Act.put, List.getElem_toArray, List.getElem_cons_succ, List.getElem_cons_zero, List.setIfInBounds_toArray, List.set_cons_zero, List.set_cons_succ]
  refine wpAnyH_ready (rs := [23]) (by kernel_rfl) (by simp) ?_
  refine AllReadyH.cons rfl (fun K hK => ?_) AllReadyH.nil
  go_simp
  refine hK.out _ _ ?_ (fun hHeld => ?_)
  · (try dsimp only); (go_keep)
  clear hK K
  try simp only [Act.put, List.getElem_toArray, List.getElem_cons_succ, List.getElem_cons_zero, List.setIfInBounds_toArray, List.set_cons_zero, List.set_cons_succ]
  refine wpAnyH_take (i := 24) (v := ?_) rfl (by kernel_rfl) (by kernel_rfl) (by kernel_rfl) (fun _ _ _ h => h) (Or.inl ⟨by rfl, ?_⟩) (by assumption) ?_
  rotate_left
  · (intro w hSw; (try dsimp only at hSw); go_simp) <;> with_reducible rfl
  try simp only [Act.put, List.getElem_toArray, List.getElem_cons_succ, List.getElem_cons_zero, List.setIfInBounds_toArray, List.set_cons_zero, List.set_cons_succ]
  refine wpAnyH_done (by kernel_rfl) ?_ _
  go_wp2
  all_goals exact bodyPost_ret (v := boxOf s a d b f q) (by rw [boxOf, if_pos (by simp [boxB, h1, h2])]; simp [results, Try.results46, go_sem, *, boxFA, boxTA]) rfl ⟨rfl, (by have HBo := HB.out; exact (by repeat (first | exact Below.refl _ _ | assumption | refine Below.drew ?_ | refine below_drewN ?_ _ | refine Below.alloc ?_ (by first | omega | (simp; done) | (simp; omega)) _ | refine Below.setCell ?_ (by first | omega | (simp; done) | (simp; omega)) _ | refine Below.trans ?_ (Below.mono (by assumption) (by first | omega | (simp; done) | (simp; omega))))))⟩
theorem box_vals (s : ByteArray) (a d b f q : Int) : ∃ v1 v2 v3 v4 c : Int, boxOf s a d b f q = .tuple #[.agg #[.int .i64 v1, .int .i64 v2, .int .i64 v3, .int .i64 v4], .int .i64 c] := by
  unfold boxOf
  split
  · exact ⟨_, _, _, _, _, rfl⟩
  · exact ⟨_, _, _, _, _, rfl⟩
theorem spec_Box_val {s : ByteArray} {a d b f q : Int} {v : Value} (h : boxOf s a d b f q = v) (w : World) (gs : s.size ≤ maxLen) : Calls Try.prog 46 #[.agg #[.string s, .int .i64 a, .int .i64 d, .int .i64 b, .int .i64 f], .int .i64 q] w fun e w' => e = .returned v ∧ Below w.heap.size w w' := h ▸ spec_BoxAround_any s a d b f q w gs
theorem impl_Box_val {s : ByteArray} {a d b f q : Int} {v : Value} (h : boxOf s a d b f q = v) (w : World) (gs : s.size ≤ maxLen) : Calls Try.prog 48 #[.agg #[.string s, .int .i64 a, .int .i64 d, .int .i64 b, .int .i64 f], .int .i64 q] w fun e w' => e = .returned v ∧ Below w.heap.size w w' := h ▸ impl_BoxAround_any s a d b f q w gs
theorem Kp.more {w cw : World} {S : List (Addr × Value)} {p : Addr} {v : Value} (h : Kp w S cw) (hc : cw.cell? p = some v) (hp : p.block < cw.heap.size) : Kp w (S ++ [(p, v)]) cw :=
  ⟨h.b, fun x hx => by
    rcases List.mem_append.1 hx with hx | hx
    · exact h.c x hx
    · simp at hx; subst hx; exact ⟨hc, hp⟩⟩
theorem Kp.alloc {w cw : World} {S : List (Addr × Value)} (h : Kp w S cw) (o : Obj) : Kp w S (cw.alloc o) := h.below ((Below.refl _ _).alloc (Nat.le_refl _) _)
set_option maxHeartbeats 2000000 in
theorem box_walk (s : ByteArray) (a d b f q v1 v2 v3 v4 c : Int) (hv : boxOf s a d b f q = .tuple #[.agg #[.int .i64 v1, .int .i64 v2, .int .i64 v3, .int .i64 v4], .int .i64 c]) (w : World) (gs : okS s) : Calls Try.prog 11 #[.agg #[.string s, .int .i64 a, .int .i64 d, .int .i64 b, .int .i64 f], .int .i64 q] w fun e w' => e = .returned (.bool true) ∧ Below w.heap.size w w' := by
  have HV := hide hv
  clear hv
  have K0 : Kp w [(⟨w.heap.size, 0, none⟩, .string s), (⟨w.heap.size, 1, none⟩, .int .i64 a), (⟨w.heap.size, 2, none⟩, .int .i64 d), (⟨w.heap.size, 3, none⟩, .int .i64 b), (⟨w.heap.size, 4, none⟩, .int .i64 f)] (w.alloc (.cells #[.string s, .int .i64 a, .int .i64 d, .int .i64 b, .int .i64 f] 60)) := ⟨(Below.refl _ _).alloc (Nat.le_refl _) _, fun p hp => by
    simp only [List.mem_cons, List.not_mem_nil, or_false] at hp
    rcases hp with rfl | rfl | rfl | rfl | rfl <;> refine ⟨?_, ?_⟩ <;> simp [go_sem]⟩
  go_enter Try.func11, Try.ntmps11
  go_wp2_with fail
  refine (szStar_any _ _ _ _ _ _ _ (by omega) (by omega) gs).mono ?_
  rintro e w1 ⟨r, rfl, hs, b⟩
  have K1 := K0.below b
  clear K0 b
  have d0 := K1.at0; have d1 := K1.at1; have d2 := K1.at2; have d3 := K1.at3; have d4 := K1.at4
  rcases hs with rfl | ⟨hs, ht⟩
  · go_wp2
    go_ret
    exact ⟨rfl, K1.b⟩
  go_wp2_with fail
  refine (toStar_any _ _ _ _ _ _).mono ?_
  rintro e w2 ⟨rfl, b⟩
  have K2 := K1.below b
  clear K1 b d0 d1 d2 d3 d4
  go_wp2_with fail
  refine (spec_Box_val HV.out _ gs).mono ?_
  rintro e w3 ⟨rfl, b⟩
  have K3 := K2.below b
  clear K2 b
  have K4 := K3.alloc (.cells #[.int .i64 v1, .int .i64 v2, .int .i64 v3, .int .i64 v4] 63)
  have e1 := K4.at0; have e2 := K4.at1; have e3 := K4.at2; have e4 := K4.at3; have e5 := K4.at4
  have g0 : (w3.alloc (.cells #[.int .i64 v1, .int .i64 v2, .int .i64 v3, .int .i64 v4] 63)).cell? ⟨w3.heap.size, 0, none⟩ = some (.int .i64 v1) := by simp [go_sem]
  have g1 : (w3.alloc (.cells #[.int .i64 v1, .int .i64 v2, .int .i64 v3, .int .i64 v4] 63)).cell? ⟨w3.heap.size, 1, none⟩ = some (.int .i64 v2) := by simp [go_sem]
  have g2 : (w3.alloc (.cells #[.int .i64 v1, .int .i64 v2, .int .i64 v3, .int .i64 v4] 63)).cell? ⟨w3.heap.size, 2, none⟩ = some (.int .i64 v3) := by simp [go_sem]
  have g3 : (w3.alloc (.cells #[.int .i64 v1, .int .i64 v2, .int .i64 v3, .int .i64 v4] 63)).cell? ⟨w3.heap.size, 3, none⟩ = some (.int .i64 v4) := by simp [go_sem]
  have L4 := (((K4.more g0 (by simp)).more g1 (by simp)).more g2 (by simp)).more g3 (by simp)
  clear K3 K4 g0 g1 g2 g3
  go_wp2_with fail
  refine (toStar_any _ _ _ _ _ _).mono ?_
  rintro e w5 ⟨rfl, b⟩
  have L5 := L4.below b
  clear L4 b e1 e2 e3 e4 e5
  go_wp2_with fail
  refine (impl_Box_val HV.out _ gs).mono ?_
  rintro e w6 ⟨rfl, b⟩
  have L6 := (L5.below b).alloc (.cells #[.int .i64 v1, .int .i64 v2, .int .i64 v3, .int .i64 v4] 63)
  clear L5 b
  have e5 := L6.at5; have e6 := L6.at6; have e7 := L6.at7; have e8 := L6.at8
  go_wp2_with fail
  refine (eqBox_same _ _ _ _ _).mono ?_
  rintro e w7 ⟨rfl, b⟩
  have L7 := L6.below b
  go_wp2
  go_ret
  exact ⟨rfl, L7.b⟩
theorem box_end : True := trivial
end Go.Proofs.Ytjflebgaemgeeaa
