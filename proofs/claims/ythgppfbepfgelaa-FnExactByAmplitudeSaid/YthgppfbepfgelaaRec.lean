/-
  Contracts of the laws' helpers on lists: copies, comparisons of equal lists, sizes.
-/
import Derived.Test.YthgppfbepfgelaaChecked
import Derived.Test.YthgppfbepfgelaaTy
import Derived.Test.YthgppfbepfgelaaMem2
import Derived.WalkKit
import Derived.Deep.QuietTactic
import Derived.BigQuiet
import Derived.Deep.RegionHeld3
namespace Go.Proofs.Ythgppfbepfgelaa
open Go.RowKit
set_option linter.unusedVariables false
set_option linter.unusedSimpArgs false
def one (n : Int) : List Value := [.int .i64 n]
theorem one_len (n : Int) : (one n).length = 1 := rfl
theorem ones : ∀ l : List Int, l.flatMap one = ints l
  | [] => rfl
  | x :: l => by rw [List.flatMap_cons, ones l]; rfl
theorem Bk.rdI {w : World} {g B : Nat} {t : TypeId} {l : List Int} (h : Bk w g t (ints l).toArray) (hB : g < B) : Rd w B 1 (some ⟨g, 0, none⟩) l.length (ints l) := by
  rw [← ones] at h ⊢
  exact h.readF one_len hB
/-- What a size helper gives: too much (-1), or a rest. -/
def SzPost (left m : Int) (w : World) (e : Ending) (w' : World) : Prop := ∃ r : Int, e = .returned (.int .i64 r) ∧ (r = -1 ∨ (0 ≤ r ∧ r + m ≤ left)) ∧ Below w.heap.size w w'
theorem info_int : (Try.prog.info? 2).map (fun i => (i.zero, i.size, i.bytes)) = some (some (.int .i64 0), 1, 8) := by kernel_rfl
theorem eqInt64S_same (A A' : Option Addr) (c c' : Nat) (l : List Int) (w : World) (hn : l.length ≤ 1048576) (hr : Rd w w.heap.size 1 A l.length (ints l)) (hr' : Rd w w.heap.size 1 A' l.length (ints l)) :
    Calls Try.prog 8 #[.slice A l.length c, .slice A' l.length c'] w fun e w' => e = .returned (.bool true) ∧ Below w.heap.size w w' := by
  rw [← ones] at hr hr'
  go_enter Try.func8, Try.ntmps8
  go_wp2_with fail
  go_loopw [5] (fun i wr => ∃ k : Nat, k ≤ l.length ∧ i = .int .i64 k ∧ ∃ n, wr = w.drewN n) (fun i _ => l.length - (intOf i).toNat)
  case atStart => exact ⟨0, by omega, rfl, 0, rfl⟩
  case round =>
    obtain ⟨k, hk, rfl, n, rfl⟩ := hrel
    by_cases hlt : k < l.length
    · obtain ⟨g, off, rfl, hg, hc⟩ := hr.elem one_len hlt
      obtain ⟨g', off', rfl, hg', hc'⟩ := hr'.elem one_len hlt
      have f0 : w.cell? ⟨g, off + k, none⟩ = some (.int .i64 l[k]) := by
        have := hc 0 _ rfl
        simpa using this
      have h0 : w.cell? ⟨g', off' + k, none⟩ = some (.int .i64 l[k]) := by
        have := hc' 0 _ rfl
        simpa using this
      have i1 : (0 : Int) ≤ (k : Int) := by omega
      have i2 : (k : Int) < (l.length : Int) := by omega
      clear hc hc' hr hr'
      go_wp2_with fail
      go_quiet (fail)
      go_wp2
      go_roundw
      case rel => exact ⟨k + 1, by omega, by go_num, by first | exact ⟨_, rfl⟩ | exact ⟨_, World.drewN_drewN _ _ _⟩⟩
      case measure => simp [intOf]; omega
    · obtain rfl : k = l.length := by omega
      clear hr hr'
      go_wp2
      go_ret
      exact ⟨rfl, (by repeat (first | exact Below.refl _ _ | assumption | refine Below.drew ?_ | refine below_drewN ?_ _ | refine Below.alloc ?_ (by first | omega | (simp; done) | (simp; omega)) _ | refine Below.setCell ?_ (by first | omega | (simp; done) | (simp; omega)) _ | refine Below.trans ?_ (Below.mono (by assumption) (by first | omega | (simp; done) | (simp; omega)))))⟩
theorem rec_end : True := trivial
end Go.Proofs.Ythgppfbepfgelaa
