/-
  Contracts: dates that are read.
-/
import Derived.Test.YtdplmbndafmlgaaDoorRdA
import Derived.Test.YtdplmbndafmlgaaDoorTxtD
import Derived.Deep.QuietTactic
import Derived.BigQuiet
namespace Go.Proofs.YtdplmbndafmlgaaDoor
open Go.RowKit Pl
set_option linter.unusedVariables false
set_option linter.unusedSimpArgs false
def digT (t : List UInt8) : Int × Bool := match Lib.decFrom 0 t with | some m => ((m : Int), true) | none => (0, false)
set_option maxHeartbeats 1000000 in
theorem l03Digits_any (t : List UInt8) (h18 : t.length ≤ 18) (w : World) :
    Calls Tryd.prog 65 #[.string ⟨t.toArray⟩] w fun e w' => e = .returned (.tuple #[.int .i64 (digT t).1, .bool (digT t).2]) ∧ w = w' := by
  go_enter Tryd.func65, Tryd.ntmps65
  go_wp2
  go_loop [4, 5] (fun n i => ∃ k acc : Nat, k ≤ t.length ∧ i = .int .i64 k ∧ n = .int .i64 acc ∧ acc < 10 ^ k ∧ Hid (Lib.decFrom 0 (t.take k) = some acc)) (fun _ i => t.length - (intOf i).toNat)
  case atStart => exact ⟨0, 0, by omega, rfl, rfl, by simp, rfl⟩
  case round =>
    obtain ⟨k, acc, hk, rfl, rfl, hac, hd⟩ := hrel
    by_cases hlt : k < t.length
    · have hac2 : acc < 100000000000000000 := Nat.lt_of_lt_of_le hac (Nat.le_trans (Nat.pow_le_pow_right (by omega) (show k ≤ 17 by omega)) (by decide))
      have eb : (⟨t.toArray⟩ : ByteArray)[k]'hlt = t[k] := rfl
      by_cases hg : 48 ≤ t[k].toNat ∧ t[k].toNat ≤ 57
      · obtain ⟨g1, g2⟩ := hg
        have HD := hide (decFrom_snoc hd.out hlt g1 g2)
        have HP := hide hac
        have hin : inB (t[k].toNat : Int) 48 57 = true := inB_mk (by omega) (by omega)
        clear hac
        go_wp2_with (go_at_call 80; refine (l01Digit_any _ _).mono ?_; rintro e w' ⟨rfl, rfl⟩)
        go_round
        case rel => exact ⟨k + 1, acc * 10 + (t[k].toNat - 48), by omega, by go_num, congrArg (Value.int .i64) (by omega), by have h := HP.out; rw [Nat.pow_succ]; omega, HD.out⟩
        case measure => simp [intOf]; omega
      · have hb2 : t[k].toNat < 48 ∨ 57 < t[k].toNat := by omega
        have HR := hide (show digT t = (0, false) from by rw [digT, decFrom_bad hlt hb2])
        have hin : inB (t[k].toNat : Int) 48 57 = false := inB_no (by omega)
        clear hac hg hb2
        go_wp2_with (go_at_call 80; refine (l01Digit_any _ _).mono ?_; rintro e w' ⟨rfl, rfl⟩)
        go_ret2
        exact ⟨ret_rd HR.out, rfl⟩
    · obtain rfl : k = t.length := by omega
      have HR := hide (show digT t = ((acc : Int), true) from by have h := hd.out; rw [List.take_length] at h; rw [digT, h])
      clear hac
      go_wp2
      go_ret2
      exact ⟨ret_rd HR.out, rfl⟩
/-- A byte less 48, as a byte. -/
def wz (a : UInt8) : Nat := (a.toNat + 208) % 256
theorem wz_wrap (a : UInt8) : IntKind.u8.wrap ((a.toNat : Int) - 48) = (wz a : Int) := by
  have h := a.toNat_lt
  unfold wz
  simp [IntKind.wrap, IntKind.bits, IntKind.signed]
  omega
theorem wz_dig {a : UInt8} (h : 48 ≤ a.toNat) (h2 : a.toNat ≤ 57) : wz a = a.toNat - 48 := by unfold wz; omega
theorem wz_le (a : UInt8) : wz a ≤ 255 := by unfold wz; omega
def td (a b : UInt8) : Nat := wz a * 10 + wz b
theorem td_le (a b : UInt8) : td a b ≤ 2805 := by have := wz_le a; have := wz_le b; unfold td; omega
theorem twoDigits_any (a b : UInt8) (w : World) : Calls Tryd.prog 66 #[.string ⟨[a, b].toArray⟩] w fun e w' => e = .returned (.int .i64 (td a b : Int)) ∧ ∃ m, w' = w.drewN m := by
  have e0 : (⟨[a, b].toArray⟩ : ByteArray)[0]'(by simp [ByteArray.size]) = a := rfl
  have e1 : (⟨[a, b].toArray⟩ : ByteArray)[1]'(by simp [ByteArray.size]) = b := rfl
  have ha := wz_wrap a
  have hb := wz_wrap b
  have la := wz_le a
  have lb := wz_le b
  have hm : IntKind.i64.wrap ((wz a : Int) * 10) = (wz a : Int) * 10 := by rw [IntKind.wrap_i64]; omega
  have hs : IntKind.i64.wrap ((wz a : Int) * 10 + (wz b : Int)) = (wz a : Int) * 10 + (wz b : Int) := by rw [IntKind.wrap_i64]; omega
  go_enter Tryd.func66, Tryd.ntmps66
  go_wp2_with fail
  go_quiet (fail)
  go_wp2
  go_ret
  exact ⟨by unfold td; simp, ⟨_, rfl⟩⟩
theorem rdc_end : True := trivial
end Go.Proofs.YtdplmbndafmlgaaDoor
