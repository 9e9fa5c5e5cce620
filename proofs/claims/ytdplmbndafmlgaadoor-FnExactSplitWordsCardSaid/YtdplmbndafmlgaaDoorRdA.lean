/-
  Contracts: numbers that are read.
-/
import Derived.Test.YtdplmbndafmlgaaDoorTxtB
import Derived.Test.YtdplmbndafmlgaaDoorName
import Derived.Lib.AtoiTie
import Derived.Lib.ParseIntBTie
namespace Go.Proofs.YtdplmbndafmlgaaDoor
open Go.RowKit Pl
set_option linter.unusedVariables false
set_option linter.unusedSimpArgs false
/-- What lies behind a sign. -/
def unsign : List UInt8 → List UInt8
  | [] => []
  | c :: t => if c = 45 then t else c :: t
def sgn (l : List UInt8) (n : Int) : Int := if l.head? = some 45 then -n else n
/-- The number that a text of at most 18 digits spells; none otherwise. -/
def readD (l : List UInt8) : Option Int :=
  if 1 ≤ (unsign l).length ∧ (unsign l).length ≤ 18 then
    (match Lib.decFrom 0 (unsign l) with
    | some m => if Lib.itoa (sgn l (m : Int)) = l then some (sgn l (m : Int)) else none
    | none => none)
  else none
def resD (l : List UInt8) : Int × Bool := match readD l with | some n => (n, true) | none => (0, false)
theorem decFrom_snoc {t : List UInt8} {k acc : Nat} (h : Lib.decFrom 0 (t.take k) = some acc) (hk : k < t.length) (h1 : 48 ≤ t[k].toNat) (h2 : t[k].toNat ≤ 57) : Lib.decFrom 0 (t.take (k + 1)) = some (acc * 10 + (t[k].toNat - 48)) :=
  Lib.decFrom_take t k 0 acc t[k] (t[k].toNat - 48) h (List.getElem?_eq_getElem hk) (by unfold Lib.digitVal; rw [if_pos ⟨h1, h2⟩])
theorem decFrom_bad {t : List UInt8} {k : Nat} (hk : k < t.length) (h : t[k].toNat < 48 ∨ 57 < t[k].toNat) : Lib.decFrom 0 t = none := by
  cases hd : Lib.decFrom 0 t with
  | none => rfl
  | some n =>
    obtain ⟨d, hd2⟩ := Lib.digit_of_decFrom t 0 n hd k t[k] (List.getElem?_eq_getElem hk)
    have := Lib.digitVal_eq hd2
    omega
theorem resD_ok {l : List UInt8} {m : Nat} {x : Int} (h1 : 1 ≤ (unsign l).length) (h18 : (unsign l).length ≤ 18) (hd : Lib.decFrom 0 (unsign l) = some m) (hx : sgn l (m : Int) = x) (hq : (!Lib.itoa x == l) = false) : resD l = (x, true) := by
  subst hx
  have e : Lib.itoa (sgn l (m : Int)) = l := by simpa using hq
  rw [resD, show readD l = some (sgn l (m : Int)) from by rw [readD, if_pos ⟨h1, h18⟩, hd]; exact if_pos e]
theorem resD_no {l : List UInt8} {m : Nat} {x : Int} (h1 : 1 ≤ (unsign l).length) (h18 : (unsign l).length ≤ 18) (hd : Lib.decFrom 0 (unsign l) = some m) (hx : sgn l (m : Int) = x) (hq : (!Lib.itoa x == l) = true) : resD l = (0, false) := by
  subst hx
  have e : ¬ Lib.itoa (sgn l (m : Int)) = l := by simpa using hq
  rw [resD, show readD l = none from by rw [readD, if_pos ⟨h1, h18⟩, hd]; exact if_neg e]
theorem resD_bad {l : List UInt8} (hd : Lib.decFrom 0 (unsign l) = none) : resD l = (0, false) := by
  rw [resD, show readD l = none from by rw [readD]; split <;> simp [hd]]
theorem resD_long {l : List UInt8} (h : ¬ (1 ≤ (unsign l).length ∧ (unsign l).length ≤ 18)) : resD l = (0, false) := by
  rw [resD, show readD l = none from by rw [readD, if_neg h]]
theorem unsign_pos {l : List UInt8} (h : l.head? ≠ some 45) : unsign l = l := by
  cases l with
  | nil => rfl
  | cons c t => exact if_neg (fun e => h (by rw [e]; rfl))
theorem sgn_pos {l : List UInt8} {n : Int} (h : l.head? ≠ some 45) : sgn l n = n := if_neg h
theorem sgn_neg {t : List UInt8} {n : Int} : sgn (45 :: t) n = -n := if_pos rfl
theorem ret_rd {a : Int × Bool} {x : Int} {b : Bool} (h : a = (x, b)) : Ending.returned (.tuple #[.int .i64 x, .bool b]) = .returned (.tuple #[.int .i64 a.1, .bool a.2]) := by rw [h]
set_option maxHeartbeats 2000000 in
set_option maxRecDepth 100000 in
theorem l01Number_neg (t : List UInt8) (h1 : 1 ≤ t.length) (h18 : t.length ≤ 18) (w : World) :
    Calls Tryd.prog 74 #[.string ⟨(45 :: t).toArray⟩] w fun e w' => e = .returned (.tuple #[.int .i64 (resD (45 :: t)).1, .bool (resD (45 :: t)).2]) ∧ Below w.heap.size w w' := by
  have hext : (⟨(45 :: t).toArray⟩ : ByteArray).extract 1 (t.length + 1) = ⟨t.toArray⟩ := by
    apply ByteArray.ext
    simp
  go_enter Tryd.func74, Tryd.ntmps74
  go_wp2_with fail
  go_loopw [5, 6] (fun n i wr => ∃ k acc : Nat, k ≤ t.length ∧ i = .int .i64 k ∧ n = .int .i64 acc ∧ acc < 10 ^ k ∧ Hid (Lib.decFrom 0 (t.take k) = some acc) ∧ wr = w) (fun _ i _ => t.length - (intOf i).toNat)
  case atStart => exact ⟨0, 0, by omega, rfl, rfl, by simp, rfl, rfl⟩
  case round =>
    obtain ⟨k, acc, hk, rfl, rfl, hac, hd, rfl⟩ := hrel
    by_cases hlt : k < t.length
    · have hac2 : acc < 100000000000000000 := Nat.lt_of_lt_of_le hac (Nat.le_trans (Nat.pow_le_pow_right (by omega) (show k ≤ 17 by omega)) (by decide))
      have eb : (⟨t.toArray⟩ : ByteArray)[k]'hlt = t[k] := rfl
      by_cases hg : 48 ≤ t[k].toNat ∧ t[k].toNat ≤ 57
      · obtain ⟨g1, g2⟩ := hg
        have HD := hide (decFrom_snoc hd.out hlt g1 g2)
        have HP := hide hac
        have hin : inB (t[k].toNat : Int) 48 57 = true := inB_mk (by omega) (by omega)
        clear hac
        go_wp2_with (go_at_call 80; refine (l01Digit_any _ _).mono ?_; rintro e w' ⟨rfl, rfl⟩)
        go_roundw
        case rel => exact ⟨k + 1, acc * 10 + (t[k].toNat - 48), by omega, by go_num, congrArg (Value.int .i64) (by omega), by have h := HP.out; rw [Nat.pow_succ]; omega, HD.out, trivial⟩
        case measure => simp [intOf]; omega
      · have hb2 : t[k].toNat < 48 ∨ 57 < t[k].toNat := by omega
        have HR := hide (resD_bad (l := (45 :: t)) (by rw [(show unsign (45 :: t) = t from rfl)]; exact decFrom_bad hlt hb2))
        have hin : inB (t[k].toNat : Int) 48 57 = false := inB_no (by omega)
        clear hac hg hb2
        go_wp2_with (go_at_call 80; refine (l01Digit_any _ _).mono ?_; rintro e w' ⟨rfl, rfl⟩)
        go_ret2
        exact ⟨ret_rd HR.out, Below.refl _ _⟩
    · obtain rfl : k = t.length := by omega
      have hd2 : Lib.decFrom 0 t = some acc := by have h := hd.out; rw [List.take_length] at h; exact h
      have hac2 : acc < 1000000000000000000 := Lib.decFrom_lt18 hd2 h18
      have HD2 := hide hd2
      clear hac hd2
      go_wp2_with fail
      refine (l01Dec_any (-(acc : Int)) (by omega) _).mono ?_
      rintro e w1 ⟨rfl, b⟩
      have HB := hide b
      clear b
      go_wp2_with fail
      · have hq : (!Lib.itoa (-(acc : Int)) == (45 :: t)) = true := by assumption
        go_ret2
        exact ⟨ret_rd (resD_no (l := (45 :: t)) (by rw [(show unsign (45 :: t) = t from rfl)]; exact h1) (by rw [(show unsign (45 :: t) = t from rfl)]; exact h18) (by rw [(show unsign (45 :: t) = t from rfl)]; exact HD2.out) sgn_neg hq), HB.out⟩
      · have hq : (!Lib.itoa (-(acc : Int)) == (45 :: t)) = false := by assumption
        go_ret2
        exact ⟨ret_rd (resD_ok (l := (45 :: t)) (by rw [(show unsign (45 :: t) = t from rfl)]; exact h1) (by rw [(show unsign (45 :: t) = t from rfl)]; exact h18) (by rw [(show unsign (45 :: t) = t from rfl)]; exact HD2.out) sgn_neg hq), HB.out⟩
set_option maxHeartbeats 2000000 in
set_option maxRecDepth 100000 in
theorem l01Number_pos (t : List UInt8) (h1 : 1 ≤ t.length) (h18 : t.length ≤ 18) (hne : t.head? ≠ some 45) (w : World) :
    Calls Tryd.prog 74 #[.string ⟨t.toArray⟩] w fun e w' => e = .returned (.tuple #[.int .i64 (resD t).1, .bool (resD t).2]) ∧ Below w.heap.size w w' := by
  have h0 : 0 < t.length := by omega
  have eb0 : (⟨t.toArray⟩ : ByteArray)[0]'h0 = t[0] := rfl
  have hb0 : ((t[0].toNat : Int) == 45) = false := by
    have h : ¬ t[0] = 45 := fun e => hne (by rw [List.head?_eq_getElem?, List.getElem?_eq_getElem h0, e])
    have h2 : ¬ (t[0].toNat : Int) = 45 := fun e => h (UInt8.toNat_inj.1 (show t[0].toNat = 45 from by omega))
    simpa using h2
  have hemp : ¬ t = [] := fun e => by rw [e] at h1; simp at h1
  have hlong : ¬ (t.length : Int) < (t.length : Int) := by omega
  have HN := hide hne
  clear hne
  go_enter Tryd.func74, Tryd.ntmps74
  go_wp2_with fail
  go_loopw [5, 6] (fun n i wr => ∃ k acc : Nat, k ≤ t.length ∧ i = .int .i64 k ∧ n = .int .i64 acc ∧ acc < 10 ^ k ∧ Hid (Lib.decFrom 0 (t.take k) = some acc) ∧ wr = w) (fun _ i _ => t.length - (intOf i).toNat)
  case atStart => exact ⟨0, 0, by omega, rfl, rfl, by simp, rfl, rfl⟩
  case round =>
    obtain ⟨k, acc, hk, rfl, rfl, hac, hd, rfl⟩ := hrel
    by_cases hlt : k < t.length
    · have hac2 : acc < 100000000000000000 := Nat.lt_of_lt_of_le hac (Nat.le_trans (Nat.pow_le_pow_right (by omega) (show k ≤ 17 by omega)) (by decide))
      have eb : (⟨t.toArray⟩ : ByteArray)[k]'hlt = t[k] := rfl
      by_cases hg : 48 ≤ t[k].toNat ∧ t[k].toNat ≤ 57
      · obtain ⟨g1, g2⟩ := hg
        have HD := hide (decFrom_snoc hd.out hlt g1 g2)
        have HP := hide hac
        have hin : inB (t[k].toNat : Int) 48 57 = true := inB_mk (by omega) (by omega)
        clear hac
        go_wp2_with (go_at_call 80; refine (l01Digit_any _ _).mono ?_; rintro e w' ⟨rfl, rfl⟩)
        go_roundw
        case rel => exact ⟨k + 1, acc * 10 + (t[k].toNat - 48), by omega, by go_num, congrArg (Value.int .i64) (by omega), by have h := HP.out; rw [Nat.pow_succ]; omega, HD.out, trivial⟩
        case measure => simp [intOf]; omega
      · have hb2 : t[k].toNat < 48 ∨ 57 < t[k].toNat := by omega
        have HR := hide (resD_bad (l := t) (by rw [(unsign_pos HN.out)]; exact decFrom_bad hlt hb2))
        have hin : inB (t[k].toNat : Int) 48 57 = false := inB_no (by omega)
        clear hac hg hb2
        go_wp2_with (go_at_call 80; refine (l01Digit_any _ _).mono ?_; rintro e w' ⟨rfl, rfl⟩)
        go_ret2
        exact ⟨ret_rd HR.out, Below.refl _ _⟩
    · obtain rfl : k = t.length := by omega
      have hd2 : Lib.decFrom 0 t = some acc := by have h := hd.out; rw [List.take_length] at h; exact h
      have hac2 : acc < 1000000000000000000 := Lib.decFrom_lt18 hd2 h18
      have HD2 := hide hd2
      clear hac hd2
      go_wp2_with fail
      refine (l01Dec_any ((acc : Int)) (by omega) _).mono ?_
      rintro e w1 ⟨rfl, b⟩
      have HB := hide b
      clear b
      go_wp2_with fail
      · have hq : (!Lib.itoa ((acc : Int)) == t) = true := by assumption
        go_ret2
        exact ⟨ret_rd (resD_no (l := t) (by rw [(unsign_pos HN.out)]; exact h1) (by rw [(unsign_pos HN.out)]; exact h18) (by rw [(unsign_pos HN.out)]; exact HD2.out) (sgn_pos HN.out) hq), HB.out⟩
      · have hq : (!Lib.itoa ((acc : Int)) == t) = false := by assumption
        go_ret2
        exact ⟨ret_rd (resD_ok (l := t) (by rw [(unsign_pos HN.out)]; exact h1) (by rw [(unsign_pos HN.out)]; exact h18) (by rw [(unsign_pos HN.out)]; exact HD2.out) (sgn_pos HN.out) hq), HB.out⟩
set_option maxHeartbeats 1000000 in
theorem l01Number_out (l : List UInt8) (hl : l.length ≤ 1048577) (h : ¬ (1 ≤ (unsign l).length ∧ (unsign l).length ≤ 18)) (w : World) :
    Calls Tryd.prog 74 #[.string ⟨l.toArray⟩] w fun e w' => e = .returned (.tuple #[.int .i64 (resD l).1, .bool (resD l).2]) ∧ Below w.heap.size w w' := by
  have HR := hide (resD_long h)
  match l, h, hl, HR with
  | [], h, hl, HR =>
    clear h
    go_enter Tryd.func74, Tryd.ntmps74
    go_wp2
    go_ret2
    exact ⟨ret_rd HR.out, Below.refl _ _⟩
  | c :: t, h, hl, HR =>
    rw [List.length_cons] at hl
    by_cases hc : c = 45
    · subst hc
      have hext : (⟨(45 :: t).toArray⟩ : ByteArray).extract 1 (t.length + 1) = ⟨t.toArray⟩ := by
        apply ByteArray.ext
        simp
      have hu : unsign (45 :: t) = t := rfl
      rw [hu] at h
      by_cases h1 : t.length < 1
      · have h2 : t = [] := List.eq_nil_of_length_eq_zero (by omega)
        subst h2
        clear h h1 hu
        go_enter Tryd.func74, Tryd.ntmps74
        go_wp2
        go_ret2
        exact ⟨ret_rd HR.out, Below.refl _ _⟩
      · have h2 : (18 : Int) < (t.length : Int) := by omega
        have h3 : ¬ (t.length : Int) < 1 := by omega
        clear h hu
        go_enter Tryd.func74, Tryd.ntmps74
        go_wp2
        go_ret2
        exact ⟨ret_rd HR.out, Below.refl _ _⟩
    · have hu : unsign (c :: t) = c :: t := if_neg hc
      rw [hu, List.length_cons] at h
      have eb0 : (⟨(c :: t).toArray⟩ : ByteArray)[0]'(by simp [ByteArray.size]) = c := rfl
      have hb0 : ((c.toNat : Int) == 45) = false := by
        have h2 : ¬ (c.toNat : Int) = 45 := fun e => hc (UInt8.toNat_inj.1 (show c.toNat = 45 from by omega))
        simpa using h2
      have h2 : (18 : Int) < (t.length : Int) + 1 := by omega
      have h3 : ¬ (t.length : Int) + 1 < 1 := by omega
      clear h hu
      go_enter Tryd.func74, Tryd.ntmps74
      go_wp2
      go_ret2
      exact ⟨ret_rd HR.out, Below.refl _ _⟩
theorem l01Number_any (l : List UInt8) (hl : l.length ≤ 1048577) (w : World) :
    Calls Tryd.prog 74 #[.string ⟨l.toArray⟩] w fun e w' => e = .returned (.tuple #[.int .i64 (resD l).1, .bool (resD l).2]) ∧ Below w.heap.size w w' := by
  by_cases h : 1 ≤ (unsign l).length ∧ (unsign l).length ≤ 18
  · match l, h with
    | [], h => simp [unsign] at h
    | c :: t, h =>
      by_cases hc : c = 45
      · subst hc
        exact l01Number_neg t h.1 h.2 w
      · have hu : unsign (c :: t) = c :: t := if_neg hc
        rw [hu] at h
        exact l01Number_pos (c :: t) h.1 h.2 (fun e => hc (by simpa using e)) w
  · exact l01Number_out l hl h w
theorem spec_ReadDecimal_any (l : List UInt8) (hl : l.length ≤ 1048577) (w : World) :
    Calls Tryd.prog 40 #[.string ⟨l.toArray⟩] w fun e w' => e = .returned (.tuple #[.int .i64 (resD l).1, .bool (resD l).2]) ∧ Below w.heap.size w w' := by
  go_enter Tryd.func40, Tryd.ntmps40
  go_wp2_with fail
  refine (l01Number_any l hl _).mono ?_
  rintro e w1 ⟨rfl, b⟩
  have HB := hide b
  clear b
  go_wp2
  go_ret2
  exact ⟨rfl, HB.out⟩
theorem rda_end : True := trivial
end Go.Proofs.YtdplmbndafmlgaaDoor
