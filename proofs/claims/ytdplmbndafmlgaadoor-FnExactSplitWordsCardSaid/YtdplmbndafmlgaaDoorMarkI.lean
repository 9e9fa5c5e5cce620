/-
  Contracts of the laws' helpers that write marks into a list of integers and look for them.
-/
import Derived.Test.YtdplmbndafmlgaaDoorOwn
import Derived.Test.YtdplmbndafmlgaaDoorRec
import Derived.Outline
namespace Go.Proofs.YtdplmbndafmlgaaDoor
open Go.RowKit
set_option linter.unusedVariables false
set_option linter.unusedSimpArgs false
theorem ret_intM {a b : Int} (h : a = b) : Ending.returned (.int .i64 a) = .returned (.int .i64 b) := by rw [h]
theorem ret_boolM {a b : Bool} (h : a = b) : Ending.returned (.bool a) = .returned (.bool b) := by rw [h]
def markI (k n : Nat) : List Int := (List.range n).map fun (i : Nat) => ((k : Int) + (i : Int))
theorem markI_len (k n : Nat) : (markI k n).length = n := by simp [markI]
theorem markI_at {k n i : Nat} (h : i < (markI k n).length) : (markI k n)[i] = (k : Int) + (i : Int) := by simp [markI]
theorem markI_end : True := trivial
end Go.Proofs.YtdplmbndafmlgaaDoor
