/-
  Contracts of the small functions on integers: each call returns the named plain value and leaves the world alone.
-/
import Derived.Test.YtdbfebhmldbdbaaChecked
import Derived.Test.YtdbfebhmldbdbaaPl
import Derived.Test.YtdbfebhmldbdbaaMem
import Derived.WalkKit
import Derived.Deep.QuietTactic
import Derived.BigQuiet
namespace Go.Proofs.Ytdbfebhmldbdbaa
open Go.RowKit Pl
set_option linter.unusedVariables false
set_option linter.unusedSimpArgs false

/-- A call that leaves the world alone, in a region that only reads. -/
theorem qsame {P : Program} {f : FuncId} {args : Array Value} {w : World} {n : Nat} {v : Value} (h : Calls P f args (w.drewN n) fun e w' => e = .returned v ∧ w.drewN n = w') : Calls P f args (w.drewN n) fun e w' => e = .returned v ∧ ∃ m, w' = w.drewN m :=
  h.mono fun _ _ hq => ⟨hq.1, n, hq.2.symm⟩
/-- The same behind an earlier region of that kind. -/
theorem qadd {P : Program} {f : FuncId} {args : Array Value} {w : World} {b n : Nat} {v : Value} (h : Calls P f args (w.drewN (b + n)) fun e w' => e = .returned v ∧ w.drewN (b + n) = w') : Calls P f args (w.drewN (b + n)) fun e w' => e = .returned v ∧ ∃ m, w' = w.drewN (b + m) :=
  h.mono fun _ _ hq => ⟨hq.1, n, hq.2.symm⟩
theorem ret_int {k : IntKind} {a b : Int} (h : a = b) : Ending.returned (.int k a) = .returned (.int k b) := by rw [h]
theorem ret2 {p : Int × Int} {a b : Int} (h : p = (a, b)) : Ending.returned (.tuple #[.int .i64 a, .int .i64 b]) = .returned (.tuple #[.int .i64 p.1, .int .i64 p.2]) := by rw [h]
theorem ret3 {p : Int × Int × Int} {a b c : Int} (h : p = (a, b, c)) : Ending.returned (.tuple #[.int .i64 a, .int .i64 b, .int .i64 c]) = .returned (.tuple #[.int .i64 p.1, .int .i64 p.2.1, .int .i64 p.2.2]) := by rw [h]
theorem ret_bool {a b : Bool} (h : a = b) : Ending.returned (.bool a) = .returned (.bool b) := by rw [h]
theorem in_any (n lo hi : Int) (w : World) : Calls Try.prog 32 #[.int .i64 n, .int .i64 lo, .int .i64 hi] w fun e w' => e = .returned (.bool (inB n lo hi)) ∧ w = w' := by
  by_cases h1 : lo ≤ n <;> by_cases h2 : n ≤ hi
  all_goals
    go_enter Try.func32, Try.ntmps32
    go_wp2
    go_ret
    exact ⟨ret_bool (by simp [inB, h1, h2]), rfl⟩
theorem in_bit {n lo hi : Int} {b : Bool} (h : inB n lo hi = b) (w : World) : Calls Try.prog 32 #[.int .i64 n, .int .i64 lo, .int .i64 hi] w fun e w' => e = .returned (.bool b) ∧ w = w' := h ▸ in_any n lo hi w
theorem l00In_any (n lo hi : Int) (w : World) : Calls Try.prog 28 #[.int .i64 n, .int .i64 lo, .int .i64 hi] w fun e w' => e = .returned (.bool (inB n lo hi)) ∧ w = w' := by
  by_cases h1 : lo ≤ n <;> by_cases h2 : n ≤ hi
  all_goals
    go_enter Try.func28, Try.ntmps28
    go_wp2
    go_ret
    exact ⟨ret_bool (by simp [inB, h1, h2]), rfl⟩
theorem l00In_bit {n lo hi : Int} {b : Bool} (h : inB n lo hi = b) (w : World) : Calls Try.prog 28 #[.int .i64 n, .int .i64 lo, .int .i64 hi] w fun e w' => e = .returned (.bool b) ∧ w = w' := h ▸ l00In_any n lo hi w
theorem spec_l02Mag_any (n : Int) (w : World) : Calls Try.prog 50 #[.int .i64 n] w fun e w' => e = .returned (.bool (inB n (-2000) 20000)) ∧ w = w' := by
  go_enter Try.func50, Try.ntmps50
  go_wp2_with (go_at_call 28; refine (l00In_any _ _ _ _).mono ?_; rintro e w' ⟨rfl, rfl⟩)
  go_ret
  exact ⟨rfl, rfl⟩
theorem floorDiv_any (a b : Int) (w : World) (hb : 0 < b) (hb2 : b ≤ 100000000000000000) (h : -100000000000000000 ≤ a) (k : a ≤ 100000000000000000) : Calls Try.prog 57 #[.int .i64 a, .int .i64 b] w fun e w' => e = .returned (.int .i64 (fdiv a b)) ∧ w = w' := by
  have hq := tdiv_bd hb h k
  obtain ⟨q1, q2⟩ := hq
  by_cases h1 : a.tmod b < 0
  all_goals
    go_enter Try.func57, Try.ntmps57
    go_wp2
    go_ret
    refine ⟨ret_int ?_, rfl⟩
    unfold fdiv
    first | exact floor_lt hb h1 | exact floor_ge hb (by omega)
theorem l02Floor_any (a b : Int) (w : World) (hb : 0 < b) (hb2 : b ≤ 100000000000000000) (h : -100000000000000000 ≤ a) (k : a ≤ 100000000000000000) : Calls Try.prog 52 #[.int .i64 a, .int .i64 b] w fun e w' => e = .returned (.int .i64 (fdiv a b)) ∧ w = w' := by
  have hq := tdiv_bd hb h k
  obtain ⟨q1, q2⟩ := hq
  by_cases h1 : a.tmod b < 0
  all_goals
    go_enter Try.func52, Try.ntmps52
    go_wp2
    go_ret
    refine ⟨ret_int ?_, rfl⟩
    unfold fdiv
    first | exact floor_lt hb h1 | exact floor_ge hb (by omega)
theorem nearest_any (n d : Int) (w : World) (hb : 0 < d) (hb2 : d ≤ 100000000000000000) (h : -100000000000000000 ≤ n) (k : n ≤ 100000000000000000) : Calls Try.prog 47 #[.int .i64 n, .int .i64 d] w fun e w' => e = .returned (.int .i64 (near n d)) ∧ w = w' := by
  obtain ⟨q1, q2⟩ := fdiv_bd hb h k
  obtain ⟨p1, p2⟩ := fdiv_mul (a := n) hb
  by_cases h1 : d - (n - fdiv n d * d) ≤ n - fdiv n d * d
  all_goals
    go_enter Try.func47, Try.ntmps47
    go_wp2_with (go_at_call 57; refine (floorDiv_any _ _ _ (by omega) (by omega) (by omega) (by omega)).mono ?_; rintro e w' ⟨rfl, rfl⟩)
    go_ret
    exact ⟨ret_int (by first | exact near_yes hb h1 | exact near_no hb (by omega)), rfl⟩
theorem l02Round_any (n d : Int) (w : World) (hb : 0 < d) (hb2 : d ≤ 10000000000000000) (h : -10000000000000000 ≤ n) (k : n ≤ 10000000000000000) : Calls Try.prog 43 #[.int .i64 n, .int .i64 d] w fun e w' => e = .returned (.int .i64 (near n d)) ∧ w = w' := by
  go_enter Try.func43, Try.ntmps43
  go_wp2_with (go_at_call 52; refine (l02Floor_any _ _ _ (by omega) (by omega) (by omega) (by omega)).mono ?_; rintro e w' ⟨rfl, rfl⟩)
  go_ret
  exact ⟨rfl, rfl⟩
