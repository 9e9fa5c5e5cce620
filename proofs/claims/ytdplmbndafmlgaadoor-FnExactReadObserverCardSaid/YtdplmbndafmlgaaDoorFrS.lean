/-
  Words for rows that list the library's tables and sentinels: what the list gives.
-/
import Derived.Test.YtdplmbndafmlgaaDoorFrT
import Derived.Test.YtdplmbndafmlgaaDoorRdB
namespace Go.Proofs.YtdplmbndafmlgaaDoor
open Go.RowKit
theorem gSen : Tryd.prog.globalNamed "strconv.ErrSyntax" = some 1 := by kernel_rfl
theorem gSenT : (Tryd.prog.globals[1]?).map (·.type) = some 73 := by kernel_rfl
theorem cellsES : Tryd.prog.cellsOf 135 = 1 := by kernel_rfl
theorem cellsS : Tryd.prog.cellsOf 9 = 1 := by kernel_rfl
theorem starName : "*" ++ "errors.errorString" = "*errors.errorString" := by decide
theorem rowES (u : TypeId) (h : Tryd.prog.typeName? 3 u = some "*errors.errorString") : u = 133 :=
  typeName_ptr_named (nm := "errors.errorString") (by rw [starName]; kernel_rfl) (by kernel_rfl) (by decide) u (by rw [starName]; exact h)
theorem sen5 {W : World} {a b c d : String × DataW Unit} {rest : List (String × DataW Unit)} (h : laidMet Tryd.prog (a :: b :: c :: d :: ("strconv.ErrSyntax", Rows.laid_strconv_ErrSyntax) :: rest) W) : Sen W := by
  obtain ⟨a0, s0, hv0, _, _, _⟩ := laid_sentinel h.tail.tail.tail.tail gSen gSenT Tryd.underlying73 rowES Tryd.underlying133 Tryd.underlying135 rfl rfl Tryd.underlying9 cellsES cellsS
  exact ⟨_, _, hv0⟩
end Go.Proofs.YtdplmbndafmlgaaDoor
