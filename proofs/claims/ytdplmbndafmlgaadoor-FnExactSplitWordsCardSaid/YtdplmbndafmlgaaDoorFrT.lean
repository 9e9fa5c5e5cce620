/-
  Words for rows that list the library's tables: what the list gives.
-/
import Derived.Test.YtdplmbndafmlgaaDoorRows
import Derived.Test.YtdplmbndafmlgaaDoorTxt
import Derived.Lib.LaidTab
import Derived.Stop.LaidErr
import Derived.LaidMore
namespace Go.Proofs.YtdplmbndafmlgaaDoor
open Go.RowKit
theorem gTab : Tryd.prog.globalNamed "internal/strconv.uint64pow10" = some 0 := by kernel_rfl
theorem gTabT : (Tryd.prog.globals[0]?).map (·.type) = some 114 := by kernel_rfl
theorem cellsE : Tryd.prog.cellsOf 90 = 1 := by kernel_rfl
theorem cellsT : Tryd.prog.cellsOf 114 = 20 := by kernel_rfl
theorem tab3 {W : World} {a b : String × DataW Unit} {rest : List (String × DataW Unit)} (h : laidMet Tryd.prog (a :: b :: ("internal/strconv.uint64pow10", Rows.laid_internal_strconv_uint64pow10) :: rest) W) : Tab W :=
  Lib.tabIs_of_head (rest := rest) gTab gTabT Tryd.underlying114 Tryd.underlying90 cellsE cellsT h.tail.tail
end Go.Proofs.YtdplmbndafmlgaaDoor
