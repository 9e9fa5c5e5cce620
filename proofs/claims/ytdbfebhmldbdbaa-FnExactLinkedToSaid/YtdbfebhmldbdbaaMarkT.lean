/-
  Contract of the laws' helper that makes a text of a number.
-/
import Derived.Test.YtdbfebhmldbdbaaFilt
import Derived.Test.YtdbfebhmldbdbaaMarkI
import Derived.Laws.IdiomStrings
import Derived.Lib.Slices
import Derived.Outline
namespace Go.Proofs.Ytdbfebhmldbdbaa
open Go.RowKit
set_option linter.unusedVariables false
set_option linter.unusedSimpArgs false
def digM (k : Nat) : UInt8 := UInt8.ofNat (48 + k % 10)
theorem digM_toNat (k : Nat) : (digM k).toNat = 48 + k % 10 := by
  unfold digM
  rw [UInt8.toNat_ofNat']
  omega
/-- The digits of k ahead of l. -/
def markD (k : Nat) (l : List UInt8) : List UInt8 := if h : k = 0 then l else markD (k / 10) (digM k :: l)
termination_by k
decreasing_by omega
theorem markD_zero (l : List UInt8) : markD 0 l = l := by rw [markD, dif_pos rfl]
theorem markD_pos {k : Nat} (h : 0 < k) (l : List UInt8) : markD k l = markD (k / 10) (digM k :: l) := by rw [markD, dif_neg (by omega)]
def markB (k : Nat) : ByteArray := ⟨(109 :: markD k []).toArray⟩
theorem grown_below {w w' w1 : World} {g : Nat} (h : w.grownBy w' (some g)) (hb : Below w'.heap.size w' w1) : w.grownBy w1 (some g) :=
  ⟨hb.os.trans h.os, hb.tape.trans h.tape, hb.output.trans h.output, Nat.le_trans h.size hb.size, fun j hj hne => (hb.block j (Nat.lt_of_lt_of_le hj h.size)).trans (h.block j hj hne)⟩
theorem grown_set {w w' : World} {g : Nat} (h : w.grownBy w' (some g)) (i : Nat) (u : Value) : w.grownBy (w'.setCell ⟨g, i, none⟩ u) (some g) :=
  ⟨h.os, h.tape, h.output, by simpa using h.size, fun j hj hne => (Below.heap_setCell _ _ _ _ (by simpa using hne)).trans (h.block j hj hne)⟩
theorem ba_cons (x : UInt8) (l : List UInt8) : (⟨#[x]⟩ ++ ⟨l.toArray⟩ : ByteArray) = ⟨(x :: l).toArray⟩ := by
  apply ByteArray.ext
  simp
theorem ret_strM {a b : ByteArray} (h : a = b) : Ending.returned (.string a) = .returned (.string b) := by rw [h]
theorem markT_end : True := trivial
end Go.Proofs.Ytdbfebhmldbdbaa
