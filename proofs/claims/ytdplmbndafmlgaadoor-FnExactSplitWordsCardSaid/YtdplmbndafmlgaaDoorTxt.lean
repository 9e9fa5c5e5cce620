/-
  Contracts: numerals, padded numerals, texts.
-/
import Derived.Test.YtdplmbndafmlgaaDoorDec
import Derived.Test.YtdplmbndafmlgaaDoorShF
import Derived.Test.YtdplmbndafmlgaaDoorNum
import Derived.Test.YtdplmbndafmlgaaDoorPl
import Derived.Lib.AppendIntMem
namespace Go.Proofs.YtdplmbndafmlgaaDoor
open Go.RowKit Pl
set_option linter.unusedVariables false
set_option linter.unusedSimpArgs false
/-- The library's table of powers lies as its text lays it. -/
def Tab (w : World) : Prop := Lib.TabIs Tryd.prog w "internal/strconv.uint64pow10" .u64 Lib.pow10Tab
theorem Tab.below {w w' : World} (h : Tab w) (hb : Below w.heap.size w w') : Tab w' := Lib.tabBelow_of_tabIs h w' hb
def slen : Value → Nat
  | .string s => s.size
  | _ => 0
def str (l : List UInt8) : Value := .string ⟨l.toArray⟩
theorem dec_len {u : Nat} (h : u ≤ 9223372036854775808) : (Lib.decDigits u).length ≤ 21 := by
  by_cases h0 : u = 0
  · subst h0; rw [dec_small (by omega)]; simp
  · rw [dec_dg u u (Nat.le_refl _) h0]; have := dg_len20 h; omega
theorem itoa_nat (u : Nat) : Lib.itoa (u : Int) = Lib.decDigits u := by
  unfold Lib.itoa
  rw [if_neg (by omega), Int.toNat_natCast]
theorem itoa_neg {u : Nat} (h : 0 < u) : Lib.itoa (-(u : Int)) = 45 :: Lib.decDigits u := by
  unfold Lib.itoa
  rw [if_pos (by omega), Int.natAbs_neg, Int.natAbs_natCast]
theorem l01Dec_at {x : Int} (N : Nat) (hx : x = (N : Int)) (hN : N ≤ 9223372036854775807) (w : World) :
    Calls Tryd.prog 49 #[.int .i64 x] w fun e w' => e = .returned (.string ⟨(Lib.decDigits N).toArray⟩) ∧ Below w.heap.size w w' := hx ▸ l01Dec_nat N hN w
theorem l01Dec_any (x : Int) (hx : -9223372036854775808 ≤ x ∧ x ≤ 9223372036854775807) (w : World) :
    Calls Tryd.prog 49 #[.int .i64 x] w fun e w' => e = .returned (.string ⟨(Lib.itoa x).toArray⟩) ∧ Below w.heap.size w w' := by
  rcases Int.lt_or_le x 0 with h | h
  · obtain ⟨u, hu⟩ := Int.eq_ofNat_of_zero_le (show 0 ≤ -x by omega)
    have e : x = -(u : Int) := by omega
    subst e
    rw [itoa_neg (by omega)]
    exact l01Dec_neg u (by omega) (by omega) w
  · obtain ⟨u, rfl⟩ := Int.eq_ofNat_of_zero_le h
    rw [itoa_nat]
    exact l01Dec_nat u (by omega) w
theorem Decimal_any (x : Int) (hx : -9223372036854775808 ≤ x ∧ x ≤ 9223372036854775807) (w : World) (T : Tab w) :
    Calls Tryd.prog 16 #[.int .i64 x] w fun e w' => e = .returned (.string ⟨(Lib.itoa x).toArray⟩) ∧ Below w.heap.size w w' := by
  have HT := hide T
  clear T
  go_enter Tryd.func16, Tryd.ntmps16
  go_wp2_with fail
  refine (Tryd.strconv_FormatInt_10 x hx.1 hx.2 _ HT.out).mono ?_
  rintro e w1 ⟨rfl, k, os, hw⟩
  have HB := hide (show Below w.heap.size w w1 from hw ▸ Lib.below_grow w.heap.size w (Nat.le_refl _) k os)
  clear hw
  go_wp2
  go_ret
  exact ⟨rfl, HB.out⟩
theorem Decimal_at {x : Int} (N : Nat) (hx : x = (N : Int)) (hN : N ≤ 9223372036854775807) (w : World) (T : Tab w) :
    Calls Tryd.prog 16 #[.int .i64 x] w fun e w' => e = .returned (.string ⟨(Lib.decDigits N).toArray⟩) ∧ Below w.heap.size w w' := by
  subst hx
  rw [← itoa_nat]
  exact Decimal_any _ (by omega) w T
set_option maxHeartbeats 1000000 in
theorem padded_at {x : Int} (N d : Nat) (hx : x = (N : Int)) (hN : N ≤ 9223372036854775807) (hd : d ≤ 100) (w : World) (T : Tab w) :
    Calls Tryd.prog 54 #[.int .i64 x, .int .i64 d] w fun e w' => e = .returned (.string ⟨(padL d (Lib.decDigits N)).toArray⟩) ∧ Below w.heap.size w w' := by
  subst hx
  have HT := hide T
  clear T
  go_enter Tryd.func54, Tryd.ntmps54
  go_wp2_with fail
  refine (Decimal_at N rfl hN _ HT.out).mono ?_
  rintro e w1 ⟨rfl, b⟩
  have HB := hide b
  have HL := hide (dec_len (u := N) (by omega))
  obtain ⟨l0, hl0⟩ : ∃ l0, l0 = Lib.decDigits N := ⟨_, rfl⟩
  have HL0 := hide hl0
  rw [← hl0] at HL ⊢
  clear b hl0
  go_wp2_with fail
  go_loopw [5] (fun v wr => ∃ l : List UInt8, v = .string ⟨l.toArray⟩ ∧ l.length ≤ 200 ∧ Hid (padL d l = padL d l0) ∧ wr = w1) (fun v _ => d - slen v)
  case atStart => exact ⟨l0, rfl, by have := HL.out; omega, rfl, rfl⟩
  case round =>
    obtain ⟨l, rfl, hll, hp, rfl⟩ := hrel
    by_cases hlt : l.length < d
    · have HP := hide (padL_lt hlt)
      have hlt' : (l.length : Int) < (d : Int) := by omega
      go_wp2
      go_roundw
      case rel => exact ⟨48 :: l, congrArg Value.string (ba_app [48] l), by rw [List.length_cons]; omega, HP.out.trans hp.out, trivial⟩
      case measure =>
        have e1 : slen (.string (⟨#[48]⟩ ++ ⟨l.toArray⟩)) = l.length + 1 := by rw [show (⟨#[48]⟩ ++ ⟨l.toArray⟩ : ByteArray) = ⟨(48 :: l).toArray⟩ from ba_app [48] l]; rfl
        have e2 : slen (.string ⟨l.toArray⟩) = l.length := rfl
        rw [e1, e2]; omega
    · have HP := hide (padL_ge (k := d) (l := l) (by omega))
      have hlt' : ¬ (l.length : Int) < (d : Int) := by omega
      go_wp2
      go_ret
      exact ⟨ret_strD (by rw [← HL0.out, ← hp.out, HP.out]), HB.out⟩
theorem txt_end : True := trivial
end Go.Proofs.YtdplmbndafmlgaaDoor
