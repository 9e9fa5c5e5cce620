/-
  Contracts of the lesser and the greater of two integers (the reference's).
-/
import Derived.Test.YtjflebgaemgeeaaNum
import Derived.Test.YtjflebgaemgeeaaPlA
namespace Go.Proofs.Ytjflebgaemgeeaa
open Go.RowKit Pl
theorem l00Min_any (a b : Int) (w : World) : Calls Try.prog 70 #[.int .i64 a, .int .i64 b] w fun e w' => e = .returned (.int .i64 (minI a b)) ∧ w = w' := by
  by_cases h1 : a < b
  all_goals
    go_enter Try.func70, Try.ntmps70
    go_wp2
    go_ret
    exact ⟨ret_int (by unfold minI; split <;> omega), rfl⟩
theorem l00Max_any (a b : Int) (w : World) : Calls Try.prog 61 #[.int .i64 a, .int .i64 b] w fun e w' => e = .returned (.int .i64 (maxI a b)) ∧ w = w' := by
  by_cases h1 : b < a
  all_goals
    go_enter Try.func61, Try.ntmps61
    go_wp2
    go_ret
    exact ⟨ret_int (by unfold maxI; split <;> omega), rfl⟩
theorem minMax_end : True := trivial
end Go.Proofs.Ytjflebgaemgeeaa
