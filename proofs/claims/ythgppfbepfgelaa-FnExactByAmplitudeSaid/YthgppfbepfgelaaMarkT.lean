/-
  Contract of the laws' helper that makes a text of a number.
-/
import Derived.Test.YthgppfbepfgelaaFilt
import Derived.Test.YthgppfbepfgelaaMarkI
import Derived.Laws.IdiomStrings
import Derived.Lib.Slices
import Derived.Outline
namespace Go.Proofs.Ythgppfbepfgelaa
open Go.RowKit
set_option linter.unusedVariables false
set_option linter.unusedSimpArgs false
def digM (k : Nat) : UInt8 := UInt8.ofNat (48 + k % 10)
theorem digM_toNat (k : Nat) : (digM k).toNat = 48 + k % 10 := by
  unfold digM
  rw [UInt8.toNat_ofNat']
  omega
/-- The digits of k ahead of l. -/
def markD (k : Nat) (l : List UInt8) : List UInt8 := if h : k = 0 then l else markD (k / 10) (digM k :: l)
termination_by k
decreasing_by omega
theorem markD_zero (l : List UInt8) : markD 0 l = l := by rw [markD, dif_pos rfl]
theorem markD_pos {k : Nat} (h : 0 < k) (l : List UInt8) : markD k l = markD (k / 10) (digM k :: l) := by rw [markD, dif_neg (by omega)]
def markB (k : Nat) : ByteArray := ⟨(109 :: markD k []).toArray⟩
theorem grown_below {w w' w1 : World} {g : Nat} (h : w.grownBy w' (some g)) (hb : Below w'.heap.size w' w1) : w.grownBy w1 (some g) :=
  ⟨hb.os.trans h.os, hb.tape.trans h.tape, hb.output.trans h.output, Nat.le_trans h.size hb.size, fun j hj hne => (hb.block j (Nat.lt_of_lt_of_le hj h.size)).trans (h.block j hj hne)⟩
theorem grown_set {w w' : World} {g : Nat} (h : w.grownBy w' (some g)) (i : Nat) (u : Value) : w.grownBy (w'.setCell ⟨g, i, none⟩ u) (some g) :=
  ⟨h.os, h.tape, h.output, by simpa using h.size, fun j hj hne => (Below.heap_setCell _ _ _ _ (by simpa using hne)).trans (h.block j hj hne)⟩
theorem ba_cons (x : UInt8) (l : List UInt8) : (⟨#[x]⟩ ++ ⟨l.toArray⟩ : ByteArray) = ⟨(x :: l).toArray⟩ := by
  apply ByteArray.ext
  simp
theorem ret_strM {a b : ByteArray} (h : a = b) : Ending.returned (.string a) = .returned (.string b) := by rw [h]
set_option maxHeartbeats 1000000 in
set_option maxRecDepth 100000 in
theorem markText_any (k : Nat) (w : World) (h0 : 0 < k) (hk : k ≤ 1000000000) : Calls Try.prog 21 #[.int .i64 k] w fun e w' => e = .returned (.string (markB k)) ∧ Below w.heap.size w w' := by
  go_enter Try.func21, Try.ntmps21
  go_wp2_with fail
  go_loopw [0, 3] (fun i t wr => ∃ (j : Nat) (l : List UInt8), i = .int .i64 j ∧ t = .string ⟨l.toArray⟩ ∧ j + l.length ≤ k ∧ Hid (markD j l = markD k []) ∧ Below w.heap.size w wr) (fun i _ _ => (intOf i).toNat)
  case atStart => exact ⟨k, [], rfl, rfl, by simp, rfl, (by repeat (first | exact Below.refl _ _ | assumption | refine Below.drew ?_ | refine below_drewN ?_ _ | refine Below.alloc ?_ (by first | omega | (simp; done) | (simp; omega)) _ | refine Below.setCell ?_ (by first | omega | (simp; done) | (simp; omega)) _ | refine Below.trans ?_ (Below.mono (by assumption) (by first | omega | (simp; done) | (simp; omega)))))⟩
  case round =>
    obtain ⟨j, l, rfl, rfl, hle, hd, hb⟩ := hrel
    have Hb := hide hb
    by_cases hlt : 0 < j
    · have hz := hb.size
      have HD := hide (markD_pos hlt l)
      have hu : ((digM j).toNat : Int) = 48 + (j : Int) % 10 := by rw [digM_toNat]; omega
      have hcv : (convert 54 9 (.slice (some ⟨wr.heap.size, 0, none⟩) 1 1)).run Try.prog (wr.alloc (.cells #[.int .u8 (48 + (j : Int) % 10)] 5)) = .ok (.string ⟨#[digM j]⟩) (wr.alloc (.cells #[.int .u8 (48 + (j : Int) % 10)] 5)) :=
        run_convert_bytes_back (P := Try.prog) _ 54 9 5 ⟨wr.heap.size, 0, none⟩ 1 [digM j] Try.underlying54 Try.underlying5 Try.underlying9 (fun i hi => by
          obtain rfl : i = 0 := by simp at hi; exact hi
          simp [Addr.add, hu])
      clear hb hu
      go_wp2
      go_roundw
      case rel =>
        have hb := Hb.out
        refine ⟨j / 10, digM j :: l, by go_num, congrArg Value.string (ba_cons _ _), by simp; omega, HD.out.symm.trans hd.out, ?_⟩
        repeat (first | exact Below.refl _ _ | assumption | refine Below.drew ?_ | refine below_drewN ?_ _ | refine Below.alloc ?_ (by first | omega | (simp; done) | (simp; omega)) _ | refine Below.setCell ?_ (by first | omega | (simp; done) | (simp; omega)) _ | refine Below.trans ?_ (Below.mono (by assumption) (by first | omega | (simp; done) | (simp; omega))))
      case measure => simp [intOf]; omega
    · obtain rfl : j = 0 := by omega
      have HD := hide (markD_zero l)
      clear hb
      go_wp2
      go_ret
      refine ⟨ret_strM ?_, Hb.out⟩
      have := hd.out
      rw [HD.out] at this
      rw [markB, ← this, ba_cons]
theorem markT_end : True := trivial
end Go.Proofs.Ythgppfbepfgelaa
