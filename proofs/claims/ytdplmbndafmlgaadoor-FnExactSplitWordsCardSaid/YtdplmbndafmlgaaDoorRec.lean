/-
  Contracts of the laws' helpers on lists: copies, comparisons of equal lists, sizes.
-/
import Derived.Test.YtdplmbndafmlgaaDoorChecked
import Derived.Test.YtdplmbndafmlgaaDoorTy
import Derived.Test.YtdplmbndafmlgaaDoorMem2
import Derived.WalkKit
import Derived.Deep.QuietTactic
import Derived.BigQuiet
import Derived.Deep.RegionHeld3
namespace Go.Proofs.YtdplmbndafmlgaaDoor
open Go.RowKit
set_option linter.unusedVariables false
set_option linter.unusedSimpArgs false
def one (n : Int) : List Value := [.int .i64 n]
theorem one_len (n : Int) : (one n).length = 1 := rfl
theorem ones : ∀ l : List Int, l.flatMap one = ints l
  | [] => rfl
  | x :: l => by rw [List.flatMap_cons, ones l]; rfl
theorem Bk.rdI {w : World} {g B : Nat} {t : TypeId} {l : List Int} (h : Bk w g t (ints l).toArray) (hB : g < B) : Rd w B 1 (some ⟨g, 0, none⟩) l.length (ints l) := by
  rw [← ones] at h ⊢
  exact h.readF one_len hB
/-- What a size helper gives: too much (-1), or a rest. -/
def SzPost (left m : Int) (w : World) (e : Ending) (w' : World) : Prop := ∃ r : Int, e = .returned (.int .i64 r) ∧ (r = -1 ∨ (0 ≤ r ∧ r + m ≤ left)) ∧ Below w.heap.size w w'
theorem info_int : (Tryd.prog.info? 2).map (fun i => (i.zero, i.size, i.bytes)) = some (some (.int .i64 0), 1, 8) := by kernel_rfl
theorem rec_end : True := trivial
end Go.Proofs.YtdplmbndafmlgaaDoor
