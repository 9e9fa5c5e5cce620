/-
  The program's records as plain records, and how they lie in cells. No program.
-/
import Derived.Test.YthgppfbepfgelaaMem
import Derived.ProofKit
namespace Go.Proofs.Ythgppfbepfgelaa
open Go.RowKit
/-- An int64 fits its kind. -/
def okI (n : Int) : Prop := (Lit.int .i64 n).wf = true
theorem okI.bd {n : Int} (h : okI n) : -9223372036854775808 ≤ n ∧ n ≤ 9223372036854775807 := by
  unfold okI at h; simpa [Lit.wf, IntKind.min, IntKind.max, IntKind.signed, IntKind.bits] using h
def okS (s : ByteArray) : Prop := s.size ≤ maxLen
def ints (z : List Int) : List Value := z.map (Value.int .i64)
structure StarT where
  name : ByteArray
  asc : Int
  dec : Int
  bri : Int
  fai : Int
def StarT.cells (x : StarT) : List Value := [.string x.name, .int .i64 x.asc, .int .i64 x.dec, .int .i64 x.bri, .int .i64 x.fai]
theorem StarT.cells_len (x : StarT) : x.cells.length = 5 := rfl
def StarT.ok (x : StarT) : Prop := okS x.name ∧ okI x.asc ∧ okI x.dec ∧ okI x.bri ∧ okI x.fai
structure ObsT where
  name : ByteArray
  shift : Int
def ObsT.cells (x : ObsT) : List Value := [.string x.name, .int .i64 x.shift]
theorem ObsT.cells_len (x : ObsT) : x.cells.length = 2 := rfl
def ObsT.ok (x : ObsT) : Prop := okS x.name ∧ okI x.shift
structure ComT where
  a : Int
  b : Int
  diff : Int
def ComT.cells (x : ComT) : List Value := [.int .i64 x.a, .int .i64 x.b, .int .i64 x.diff]
theorem ComT.cells_len (x : ComT) : x.cells.length = 3 := rfl
def ComT.ok (x : ComT) : Prop := okI x.a ∧ okI x.b ∧ okI x.diff
structure EstT where
  time : Int
  star : ByteArray
  obs : ByteArray
  mag : Int
  fain : Bool
def EstT.cells (x : EstT) : List Value := [.int .i64 x.time, .string x.star, .string x.obs, .int .i64 x.mag, .bool x.fain]
theorem EstT.cells_len (x : EstT) : x.cells.length = 5 := rfl
def EstT.ok (x : EstT) : Prop := okI x.time ∧ okS x.star ∧ okS x.obs ∧ okI x.mag
end Go.Proofs.Ythgppfbepfgelaa
