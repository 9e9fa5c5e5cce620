/-
  Contracts of the small functions on integers: each call returns the named plain value and leaves the world alone.
-/
import Derived.Test.YtbmjkimlpneidaaChecked
import Derived.Test.YtbmjkimlpneidaaPl
import Derived.Test.YtbmjkimlpneidaaMem
import Derived.WalkKit
import Derived.Deep.QuietTactic
import Derived.BigQuiet
namespace Go.Proofs.Ytbmjkimlpneidaa
open Go.RowKit Pl
set_option linter.unusedVariables false
set_option linter.unusedSimpArgs false

/-- A call that leaves the world alone, in a region that only reads. -/
theorem qsame {P : Program} {f : FuncId} {args : Array Value} {w : World} {n : Nat} {v : Value} (h : Calls P f args (w.drewN n) fun e w' => e = .returned v ∧ w.drewN n = w') : Calls P f args (w.drewN n) fun e w' => e = .returned v ∧ ∃ m, w' = w.drewN m :=
  h.mono fun _ _ hq => ⟨hq.1, n, hq.2.symm⟩
/-- The same behind an earlier region of that kind. -/
theorem qadd {P : Program} {f : FuncId} {args : Array Value} {w : World} {b n : Nat} {v : Value} (h : Calls P f args (w.drewN (b + n)) fun e w' => e = .returned v ∧ w.drewN (b + n) = w') : Calls P f args (w.drewN (b + n)) fun e w' => e = .returned v ∧ ∃ m, w' = w.drewN (b + m) :=
  h.mono fun _ _ hq => ⟨hq.1, n, hq.2.symm⟩
theorem ret_int {k : IntKind} {a b : Int} (h : a = b) : Ending.returned (.int k a) = .returned (.int k b) := by rw [h]
theorem ret2 {p : Int × Int} {a b : Int} (h : p = (a, b)) : Ending.returned (.tuple #[.int .i64 a, .int .i64 b]) = .returned (.tuple #[.int .i64 p.1, .int .i64 p.2]) := by rw [h]
theorem ret3 {p : Int × Int × Int} {a b c : Int} (h : p = (a, b, c)) : Ending.returned (.tuple #[.int .i64 a, .int .i64 b, .int .i64 c]) = .returned (.tuple #[.int .i64 p.1, .int .i64 p.2.1, .int .i64 p.2.2]) := by rw [h]
theorem ret_bool {a b : Bool} (h : a = b) : Ending.returned (.bool a) = .returned (.bool b) := by rw [h]
theorem in_any (n lo hi : Int) (w : World) : Calls Try.prog 46 #[.int .i64 n, .int .i64 lo, .int .i64 hi] w fun e w' => e = .returned (.bool (inB n lo hi)) ∧ w = w' := by
  by_cases h1 : lo ≤ n <;> by_cases h2 : n ≤ hi
  all_goals
    go_enter Try.func46, Try.ntmps46
    go_wp2
    go_ret
    exact ⟨ret_bool (by simp [inB, h1, h2]), rfl⟩
theorem in_bit {n lo hi : Int} {b : Bool} (h : inB n lo hi = b) (w : World) : Calls Try.prog 46 #[.int .i64 n, .int .i64 lo, .int .i64 hi] w fun e w' => e = .returned (.bool b) ∧ w = w' := h ▸ in_any n lo hi w
theorem l00In_any (n lo hi : Int) (w : World) : Calls Try.prog 45 #[.int .i64 n, .int .i64 lo, .int .i64 hi] w fun e w' => e = .returned (.bool (inB n lo hi)) ∧ w = w' := by
  by_cases h1 : lo ≤ n <;> by_cases h2 : n ≤ hi
  all_goals
    go_enter Try.func45, Try.ntmps45
    go_wp2
    go_ret
    exact ⟨ret_bool (by simp [inB, h1, h2]), rfl⟩
theorem l00In_bit {n lo hi : Int} {b : Bool} (h : inB n lo hi = b) (w : World) : Calls Try.prog 45 #[.int .i64 n, .int .i64 lo, .int .i64 hi] w fun e w' => e = .returned (.bool b) ∧ w = w' := h ▸ l00In_any n lo hi w
theorem impl_ValidMag_any (n : Int) (w : World) : Calls Try.prog 54 #[.int .i64 n] w fun e w' => e = .returned (.bool (inB n (-2000) 20000)) ∧ w = w' := by
  go_enter Try.func54, Try.ntmps54
  go_wp2_with (go_at_call 46; refine (in_any _ _ _ _).mono ?_; rintro e w' ⟨rfl, rfl⟩)
  go_ret
  exact ⟨rfl, rfl⟩
theorem spec_l02Mag_any (n : Int) (w : World) : Calls Try.prog 53 #[.int .i64 n] w fun e w' => e = .returned (.bool (inB n (-2000) 20000)) ∧ w = w' := by
  go_enter Try.func53, Try.ntmps53
  go_wp2_with (go_at_call 45; refine (l00In_any _ _ _ _).mono ?_; rintro e w' ⟨rfl, rfl⟩)
  go_ret
  exact ⟨rfl, rfl⟩
theorem impl_ValidTime_any (n : Int) (w : World) : Calls Try.prog 44 #[.int .i64 n] w fun e w' => e = .returned (.bool (inB n 0 10000000)) ∧ w = w' := by
  go_enter Try.func44, Try.ntmps44
  go_wp2_with (go_at_call 46; refine (in_any _ _ _ _).mono ?_; rintro e w' ⟨rfl, rfl⟩)
  go_ret
  exact ⟨rfl, rfl⟩
theorem spec_l03Time_any (n : Int) (w : World) : Calls Try.prog 43 #[.int .i64 n] w fun e w' => e = .returned (.bool (inB n 0 10000000)) ∧ w = w' := by
  go_enter Try.func43, Try.ntmps43
  go_wp2_with (go_at_call 45; refine (l00In_any _ _ _ _).mono ?_; rintro e w' ⟨rfl, rfl⟩)
  go_ret
  exact ⟨rfl, rfl⟩
theorem spec_l04Ascend_any (n : Int) (w : World) : Calls Try.prog 48 #[.int .i64 n] w fun e w' => e = .returned (.bool (inB n 0 86399)) ∧ w = w' := by
  go_enter Try.func48, Try.ntmps48
  go_wp2_with (go_at_call 45; refine (l00In_any _ _ _ _).mono ?_; rintro e w' ⟨rfl, rfl⟩)
  go_ret
  exact ⟨rfl, rfl⟩
theorem abs_any (n : Int) (w : World) (h : -1000000000000000000 ≤ n) (k : n ≤ 1000000000000000000) : Calls Try.prog 50 #[.int .i64 n] w fun e w' => e = .returned (.int .i64 (absI n)) ∧ w = w' := by
  by_cases h1 : n < 0
  all_goals
    go_enter Try.func50, Try.ntmps50
    go_wp2
    go_ret
    exact ⟨ret_int (by unfold absI; split <;> omega), rfl⟩
theorem l02Size_any (n : Int) (w : World) (h : -1000000000000000000 ≤ n) (k : n ≤ 1000000000000000000) : Calls Try.prog 67 #[.int .i64 n] w fun e w' => e = .returned (.int .i64 (absI n)) ∧ w = w' := by
  by_cases h1 : n < 0
  all_goals
    go_enter Try.func67, Try.ntmps67
    go_wp2
    go_ret
    exact ⟨ret_int (by unfold absI; split <;> omega), rfl⟩
theorem floorDiv_any (a b : Int) (w : World) (hb : 0 < b) (hb2 : b ≤ 100000000000000000) (h : -100000000000000000 ≤ a) (k : a ≤ 100000000000000000) : Calls Try.prog 66 #[.int .i64 a, .int .i64 b] w fun e w' => e = .returned (.int .i64 (fdiv a b)) ∧ w = w' := by
  have hq := tdiv_bd hb h k
  obtain ⟨q1, q2⟩ := hq
  by_cases h1 : a.tmod b < 0
  all_goals
    go_enter Try.func66, Try.ntmps66
    go_wp2
    go_ret
    refine ⟨ret_int ?_, rfl⟩
    unfold fdiv
    first | exact floor_lt hb h1 | exact floor_ge hb (by omega)
theorem l02Floor_any (a b : Int) (w : World) (hb : 0 < b) (hb2 : b ≤ 100000000000000000) (h : -100000000000000000 ≤ a) (k : a ≤ 100000000000000000) : Calls Try.prog 69 #[.int .i64 a, .int .i64 b] w fun e w' => e = .returned (.int .i64 (fdiv a b)) ∧ w = w' := by
  have hq := tdiv_bd hb h k
  obtain ⟨q1, q2⟩ := hq
  by_cases h1 : a.tmod b < 0
  all_goals
    go_enter Try.func69, Try.ntmps69
    go_wp2
    go_ret
    refine ⟨ret_int ?_, rfl⟩
    unfold fdiv
    first | exact floor_lt hb h1 | exact floor_ge hb (by omega)
theorem ceilDiv_any (a b : Int) (w : World) (hb : 0 < b) (hb2 : b ≤ 100000000000000000) (h : -100000000000000000 ≤ a) (k : a ≤ 100000000000000000) : Calls Try.prog 47 #[.int .i64 a, .int .i64 b] w fun e w' => e = .returned (.int .i64 (-fdiv (-a) b)) ∧ w = w' := by
  have hq := fdiv_bd hb (show -100000000000000000 ≤ -a by omega) (show -a ≤ 100000000000000000 by omega)
  obtain ⟨q1, q2⟩ := hq
  go_enter Try.func47, Try.ntmps47
  go_wp2_with (go_at_call 66; refine (floorDiv_any _ _ _ (by omega) (by omega) (by omega) (by omega)).mono ?_; rintro e w' ⟨rfl, rfl⟩)
  go_ret
  exact ⟨rfl, rfl⟩
theorem nearest_any (n d : Int) (w : World) (hb : 0 < d) (hb2 : d ≤ 100000000000000000) (h : -100000000000000000 ≤ n) (k : n ≤ 100000000000000000) : Calls Try.prog 52 #[.int .i64 n, .int .i64 d] w fun e w' => e = .returned (.int .i64 (near n d)) ∧ w = w' := by
  obtain ⟨q1, q2⟩ := fdiv_bd hb h k
  obtain ⟨p1, p2⟩ := fdiv_mul (a := n) hb
  by_cases h1 : d - (n - fdiv n d * d) ≤ n - fdiv n d * d
  all_goals
    go_enter Try.func52, Try.ntmps52
    go_wp2_with (go_at_call 66; refine (floorDiv_any _ _ _ (by omega) (by omega) (by omega) (by omega)).mono ?_; rintro e w' ⟨rfl, rfl⟩)
    go_ret
    exact ⟨ret_int (by first | exact near_yes hb h1 | exact near_no hb (by omega)), rfl⟩
theorem l02Round_any (n d : Int) (w : World) (hb : 0 < d) (hb2 : d ≤ 10000000000000000) (h : -10000000000000000 ≤ n) (k : n ≤ 10000000000000000) : Calls Try.prog 51 #[.int .i64 n, .int .i64 d] w fun e w' => e = .returned (.int .i64 (near n d)) ∧ w = w' := by
  go_enter Try.func51, Try.ntmps51
  go_wp2_with (go_at_call 69; refine (l02Floor_any _ _ _ (by omega) (by omega) (by omega) (by omega)).mono ?_; rintro e w' ⟨rfl, rfl⟩)
  go_ret
  exact ⟨rfl, rfl⟩
theorem gcd_any (a b : Int) (w : World) (ha : -100000000000000000 ≤ a) (ha2 : a ≤ 100000000000000000) (hb : -100000000000000000 ≤ b) (hb2 : b ≤ 100000000000000000) : Calls Try.prog 71 #[.int .i64 a, .int .i64 b] w fun e w' => e = .returned (.int .i64 (gcdI a b)) ∧ ∃ n, w' = w.drewN n := by
  go_enter Try.func71, Try.ntmps71
  go_wp2
  go_loopw [0, 1] (fun s t wr => ∃ x y : Int, s = .int .i64 x ∧ t = .int .i64 y ∧ Hid (gcdI x y = gcdI a b) ∧ -100000000000000000 ≤ x ∧ x ≤ 100000000000000000 ∧ -100000000000000000 ≤ y ∧ y ≤ 100000000000000000 ∧ ∃ n, wr = w.drewN n) (fun _ t _ => (intOf t).natAbs)
  case atStart => exact ⟨a, b, rfl, rfl, rfl, ha, ha2, hb, hb2, 0, rfl⟩
  case round =>
    obtain ⟨x, y, rfl, rfl, hg, hx, hx2, hy, hy2, n, rfl⟩ := hrel
    by_cases h0 : y = 0
    · subst h0
      go_wp2_with (go_at_call 50; refine (abs_any _ _ (by omega) (by omega)).mono ?_; rintro e w' ⟨rfl, rfl⟩)
      go_ret
      exact ⟨ret_int (by rw [← hg.out, gcdI_zero]), n, rfl⟩
    · obtain ⟨m1, m2, m3⟩ := tmod_bd (a := x) h0 hy hy2
      have h1 : (y == 0) = false := by simpa using h0
      go_wp2
      go_quiet (fail)
      go_wp2
      go_roundw
      case rel => exact ⟨y, x.tmod y, rfl, rfl, (gcdI_step x y).trans hg.out, hy, hy2, m1, m2, _, World.drewN_drewN _ _ _⟩
      case measure => simpa [intOf] using m3
theorem l02Gcd_any (a b : Int) (w : World) (ha : 0 ≤ a) (ha2 : a ≤ 100000000000000000) (hb : 0 ≤ b) (hb2 : b ≤ 100000000000000000) : Calls Try.prog 70 #[.int .i64 a, .int .i64 b] w fun e w' => e = .returned (.int .i64 (gcdI a b)) ∧ w = w' := by
  go_enter Try.func70, Try.ntmps70
  go_wp2
  go_loop [0, 1] (fun s t => ∃ x y : Int, s = .int .i64 x ∧ t = .int .i64 y ∧ Hid (gcdI x y = gcdI a b) ∧ 0 ≤ x ∧ x ≤ 100000000000000000 ∧ 0 ≤ y ∧ y ≤ 100000000000000000) (fun _ t => (intOf t).natAbs)
  case atStart => exact ⟨a, b, rfl, rfl, rfl, ha, ha2, hb, hb2⟩
  case round =>
    obtain ⟨x, y, rfl, rfl, hg, hx, hx2, hy, hy2⟩ := hrel
    by_cases h0 : y = 0
    · subst h0
      go_wp2
      go_ret
      exact ⟨ret_int (by rw [← hg.out, gcdI_zero, absI, if_neg (by omega)]), rfl⟩
    · have m1 := Int.emod_nonneg x h0
      have m2 := Int.emod_lt_of_pos x (show 0 < y by omega)
      have m3 : x.tmod y = x % y := Int.tmod_eq_emod_of_nonneg hx
      have m4 : gcdI y (x % y) = gcdI a b := by rw [← m3, gcdI_step]; exact hg.out
      have H4 := hide m4
      clear m3 m4
      have h1 : (y == 0) = false := by simpa using h0
      go_wp2
      go_round
      case rel => exact ⟨y, x % y, rfl, rfl, H4, hy, hy2, m1, by omega⟩
      case measure => simp [intOf]; omega
theorem lowest_any (n d : Int) (w : World) (hb : 0 < d) (hb2 : d ≤ 100000000000000000) (h : -100000000000000000 ≤ n) (k : n ≤ 100000000000000000) : Calls Try.prog 60 #[.int .i64 n, .int .i64 d] w fun e w' => e = .returned (.agg #[.int .i64 (lowN n d), .int .i64 (lowD n d)]) ∧ Below w.heap.size w w' := by
  obtain ⟨g1, g2⟩ := gcdI_bd (a := n) hb
  obtain ⟨q1, q2⟩ := tdiv_bd (a := n) (b := gcdI n d) (by omega) h k
  obtain ⟨q3, q4⟩ := ediv_bd (a := d) (b := gcdI n d) (by omega) (by omega)
  go_enter Try.func60, Try.ntmps60
  go_wp2_with (go_at_call 71; refine (gcd_any _ _ _ (by omega) (by omega) (by omega) (by omega)).mono ?_; rintro e w' ⟨rfl, m, rfl⟩)
  go_region
  all_goals (try go_wp2)
  all_goals refine bodyPost_ret (v := .agg #[.int .i64 (n.tdiv (gcdI n d)), .int .i64 (d / gcdI n d)]) (by simp [results, Try.results60, go_sem]) rfl ⟨?_, ?_⟩
  all_goals first | (rw [lowN, lowD, Int.tdiv_eq_ediv_of_nonneg (show 0 ≤ d by omega)]; done) | (repeat (first | exact Below.refl _ _ | assumption | refine Below.drew ?_ | refine below_drewN ?_ _ | refine Below.alloc ?_ (by first | omega | (simp; done) | (simp; omega)) _ | refine Below.setCell ?_ (by first | omega | (simp; done) | (simp; omega)) _ | refine Below.trans ?_ (Below.mono (by assumption) (by first | omega | (simp; done) | (simp; omega)))))
theorem l02Make_any (n d : Int) (w : World) (hb : 0 < d) (hb2 : d ≤ 100000000000000000) (h : -100000000000000000 ≤ n) (k : n ≤ 100000000000000000) : Calls Try.prog 59 #[.int .i64 n, .int .i64 d] w fun e w' => e = .returned (.agg #[.int .i64 (lowN n d), .int .i64 (lowD n d)]) ∧ Below w.heap.size w w' := by
  obtain ⟨g1, g2⟩ := gcdI_bd (a := n) hb
  obtain ⟨q1, q2⟩ := tdiv_bd (a := n) (b := gcdI n d) (by omega) h k
  obtain ⟨q3, q4⟩ := ediv_bd (a := d) (b := gcdI n d) (by omega) (by omega)
  obtain ⟨p1, p2⟩ := absI_bd (n := n) (m := 100000000000000000) h k
  have eg := gcdI_abs n d
  go_enter Try.func59, Try.ntmps59
  go_wp2_with (first | (go_at_call 67; refine (l02Size_any _ _ (by omega) (by omega)).mono ?_; rintro e w' ⟨rfl, rfl⟩) | (go_at_call 70; refine (l02Gcd_any _ _ _ (by omega) (by omega) (by omega) (by omega)).mono ?_; rintro e w' ⟨rfl, rfl⟩))
  go_region
  all_goals (try go_wp2)
  all_goals refine bodyPost_ret (v := .agg #[.int .i64 (n.tdiv (gcdI n d)), .int .i64 (d / gcdI n d)]) (by simp [results, Try.results59, go_sem]) rfl ⟨?_, ?_⟩
  all_goals first | (rw [lowN, lowD, Int.tdiv_eq_ediv_of_nonneg (show 0 ≤ d by omega)]; done) | (repeat (first | exact Below.refl _ _ | assumption | refine Below.drew ?_ | refine below_drewN ?_ _ | refine Below.alloc ?_ (by first | omega | (simp; done) | (simp; omega)) _ | refine Below.setCell ?_ (by first | omega | (simp; done) | (simp; omega)) _ | refine Below.trans ?_ (Below.mono (by assumption) (by first | omega | (simp; done) | (simp; omega)))))
