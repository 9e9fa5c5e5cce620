/-
  Contracts: dates that the specification reads; both.
-/
import Derived.Test.YtdplmbndafmlgaaDoorRdD
namespace Go.Proofs.YtdplmbndafmlgaaDoor
open Go.RowKit Pl
set_option linter.unusedVariables false
set_option linter.unusedSimpArgs false
theorem digT4_yes {a b c d : UInt8} (h : (isDig a && isDig b && isDig c && isDig d) = true) : digT [a, b, c, d] = ((yr a b c d : Int), true) := by rw [digT4, if_pos h]
theorem digT4_no {a b c d : UInt8} (h : (isDig a && isDig b && isDig c && isDig d) = false) : digT [a, b, c, d] = (0, false) := by rw [digT4, if_neg (by rw [h]; simp)]
theorem digT2_yes {a b : UInt8} (h : (isDig a && isDig b) = true) : digT [a, b] = ((tw a b : Int), true) := by rw [digT2, if_pos h]
theorem digT2_no {a b : UInt8} (h : (isDig a && isDig b) = false) : digT [a, b] = (0, false) := by rw [digT2, if_neg (by rw [h]; simp)]
theorem beq_byte_yes {b : UInt8} (h : b = 45) : ((b.toNat : Int) != 45) = false := by subst h; rfl
theorem beq_byte_no {b : UInt8} (h : ¬ b = 45) : ((b.toNat : Int) != 45) = true := by
  have h2 : ¬ (b.toNat : Int) = 45 := fun e => h (UInt8.toNat_inj.1 (show b.toNat = 45 from by omega))
  simpa using h2
theorem good_bad {b0 b1 b2 b3 b4 b5 b6 b7 b8 b9 : UInt8} (h : goodB b0 b1 b2 b3 b4 b5 b6 b7 b8 b9 = false) : Ending.returned (.tuple #[.agg #[.int .i64 0, .int .i64 0, .int .i64 0], .bool false]) = Ending.returned (.tuple #[.agg #[.int .i64 (rdY b0 b1 b2 b3 b4 b5 b6 b7 b8 b9), .int .i64 (rdM b0 b1 b2 b3 b4 b5 b6 b7 b8 b9), .int .i64 (rdZ b0 b1 b2 b3 b4 b5 b6 b7 b8 b9)], .bool (goodB b0 b1 b2 b3 b4 b5 b6 b7 b8 b9)]) := by rw [rdY, rdM, rdZ, h]; rfl
theorem good_good {b0 b1 b2 b3 b4 b5 b6 b7 b8 b9 : UInt8} (h : goodB b0 b1 b2 b3 b4 b5 b6 b7 b8 b9 = true) : Ending.returned (.tuple #[.agg #[.int .i64 (yr b0 b1 b2 b3 : Int), .int .i64 (tw b5 b6 : Int), .int .i64 (tw b8 b9 : Int)], .bool true]) = Ending.returned (.tuple #[.agg #[.int .i64 (rdY b0 b1 b2 b3 b4 b5 b6 b7 b8 b9), .int .i64 (rdM b0 b1 b2 b3 b4 b5 b6 b7 b8 b9), .int .i64 (rdZ b0 b1 b2 b3 b4 b5 b6 b7 b8 b9)], .bool (goodB b0 b1 b2 b3 b4 b5 b6 b7 b8 b9)]) := by rw [rdY, rdM, rdZ, h]; rfl
set_option maxHeartbeats 2000000 in
set_option maxRecDepth 100000 in
theorem spec_ReadDate10 (b0 b1 b2 b3 b4 b5 b6 b7 b8 b9 : UInt8) (w : World) : Calls Tryd.prog 28 #[.string ⟨#[b0, b1, b2, b3, b4, b5, b6, b7, b8, b9]⟩] w fun e w' => e = .returned (.tuple #[.agg #[.int .i64 (rdY b0 b1 b2 b3 b4 b5 b6 b7 b8 b9), .int .i64 (rdM b0 b1 b2 b3 b4 b5 b6 b7 b8 b9), .int .i64 (rdZ b0 b1 b2 b3 b4 b5 b6 b7 b8 b9)], .bool (goodB b0 b1 b2 b3 b4 b5 b6 b7 b8 b9)]) ∧ Below w.heap.size w w' := by
  have x04 : (⟨#[b0, b1, b2, b3, b4, b5, b6, b7, b8, b9]⟩ : ByteArray).extract 0 4 = ⟨#[b0, b1, b2, b3]⟩ := by apply ByteArray.ext; simp
  have x57 : (⟨#[b0, b1, b2, b3, b4, b5, b6, b7, b8, b9]⟩ : ByteArray).extract 5 7 = ⟨#[b5, b6]⟩ := by apply ByteArray.ext; simp
  have x810 : (⟨#[b0, b1, b2, b3, b4, b5, b6, b7, b8, b9]⟩ : ByteArray).extract 8 10 = ⟨#[b8, b9]⟩ := by apply ByteArray.ext; simp
  have e4 : (⟨#[b0, b1, b2, b3, b4, b5, b6, b7, b8, b9]⟩ : ByteArray)[4]'(by simp [ByteArray.size]) = b4 := rfl
  have e7 : (⟨#[b0, b1, b2, b3, b4, b5, b6, b7, b8, b9]⟩ : ByteArray)[7]'(by simp [ByteArray.size]) = b7 := rfl
  by_cases h4 : b4 = 45
  case neg =>
    have hb : (b4 == 45) = false := by simpa using h4
    have HV := hide (good_bad (show goodB b0 b1 b2 b3 b4 b5 b6 b7 b8 b9 = false from by simp only [goodB, hb, Bool.false_and, Bool.and_false]))
    clear hb
    have k4 := beq_byte_no h4
    clear h4
    go_enter Tryd.func28, Tryd.ntmps28
    go_wp2
    exact bodyPost_ret (v := .tuple #[.agg #[.int .i64 0, .int .i64 0, .int .i64 0], .bool false]) (by simp [results, Tryd.results28, go_sem]) rfl ⟨HV.out, (by repeat (first | exact Below.refl _ _ | assumption | refine Below.drew ?_ | refine below_drewN ?_ _ | refine Below.alloc ?_ (by first | omega | (simp; done) | (simp; omega)) _ | refine Below.setCell ?_ (by first | omega | (simp; done) | (simp; omega)) _ | refine Below.trans ?_ (Below.mono (by assumption) (by first | omega | (simp; done) | (simp; omega)))))⟩
  have k4 := beq_byte_yes h4
  by_cases h7 : b7 = 45
  case neg =>
    have hb : (b7 == 45) = false := by simpa using h7
    have HV := hide (good_bad (show goodB b0 b1 b2 b3 b4 b5 b6 b7 b8 b9 = false from by simp only [goodB, hb, Bool.false_and, Bool.and_false]))
    clear hb
    have k7 := beq_byte_no h7
    clear h7 h4
    go_enter Tryd.func28, Tryd.ntmps28
    go_wp2
    exact bodyPost_ret (v := .tuple #[.agg #[.int .i64 0, .int .i64 0, .int .i64 0], .bool false]) (by simp [results, Tryd.results28, go_sem]) rfl ⟨HV.out, (by repeat (first | exact Below.refl _ _ | assumption | refine Below.drew ?_ | refine below_drewN ?_ _ | refine Below.alloc ?_ (by first | omega | (simp; done) | (simp; omega)) _ | refine Below.setCell ?_ (by first | omega | (simp; done) | (simp; omega)) _ | refine Below.trans ?_ (Below.mono (by assumption) (by first | omega | (simp; done) | (simp; omega)))))⟩
  have k7 := beq_byte_yes h7
  cases hA : (isDig b0 && isDig b1 && isDig b2 && isDig b3)
  case false =>
    have HV := hide (good_bad (show goodB b0 b1 b2 b3 b4 b5 b6 b7 b8 b9 = false from by simp only [goodB, hA, Bool.false_and]))
    have D4 := hide (digT4_no hA)
    obtain ⟨x7, y7, D7⟩ : ∃ x y, digT [b5, b6] = (x, y) := ⟨_, _, rfl⟩
    obtain ⟨x10, y10, D10⟩ : ∃ x y, digT [b8, b9] = (x, y) := ⟨_, _, rfl⟩
    have D7 := hide D7
    have D10 := hide D10
    clear hA h4 h7
    go_enter Tryd.func28, Tryd.ntmps28
    go_wp2_with fail
    refine (l03Digits_val D4.out (by simp) _).mono ?_
    rintro e w' ⟨rfl, rfl⟩
    go_wp2_with fail
    refine (l03Digits_val D7.out (by simp) _).mono ?_
    rintro e w' ⟨rfl, rfl⟩
    go_wp2_with fail
    refine (l03Digits_val D10.out (by simp) _).mono ?_
    rintro e w' ⟨rfl, rfl⟩
    go_wp2
    exact bodyPost_ret (v := .tuple #[.agg #[.int .i64 0, .int .i64 0, .int .i64 0], .bool false]) (by simp [results, Tryd.results28, go_sem]) rfl ⟨HV.out, (by repeat (first | exact Below.refl _ _ | assumption | refine Below.drew ?_ | refine below_drewN ?_ _ | refine Below.alloc ?_ (by first | omega | (simp; done) | (simp; omega)) _ | refine Below.setCell ?_ (by first | omega | (simp; done) | (simp; omega)) _ | refine Below.trans ?_ (Below.mono (by assumption) (by first | omega | (simp; done) | (simp; omega)))))⟩
  cases hM : (isDig b5 && isDig b6)
  case false =>
    have HV := hide (good_bad (show goodB b0 b1 b2 b3 b4 b5 b6 b7 b8 b9 = false from by simp only [goodB, hA, hM, Bool.false_and, Bool.and_false]))
    have D4 := hide (digT4_yes hA)
    have D7 := hide (digT2_no hM)
    obtain ⟨x10, y10, D10⟩ : ∃ x y, digT [b8, b9] = (x, y) := ⟨_, _, rfl⟩
    have D10 := hide D10
    clear hA hM h4 h7
    go_enter Tryd.func28, Tryd.ntmps28
    go_wp2_with fail
    refine (l03Digits_val D4.out (by simp) _).mono ?_
    rintro e w' ⟨rfl, rfl⟩
    go_wp2_with fail
    refine (l03Digits_val D7.out (by simp) _).mono ?_
    rintro e w' ⟨rfl, rfl⟩
    go_wp2_with fail
    refine (l03Digits_val D10.out (by simp) _).mono ?_
    rintro e w' ⟨rfl, rfl⟩
    go_wp2
    exact bodyPost_ret (v := .tuple #[.agg #[.int .i64 0, .int .i64 0, .int .i64 0], .bool false]) (by simp [results, Tryd.results28, go_sem]) rfl ⟨HV.out, (by repeat (first | exact Below.refl _ _ | assumption | refine Below.drew ?_ | refine below_drewN ?_ _ | refine Below.alloc ?_ (by first | omega | (simp; done) | (simp; omega)) _ | refine Below.setCell ?_ (by first | omega | (simp; done) | (simp; omega)) _ | refine Below.trans ?_ (Below.mono (by assumption) (by first | omega | (simp; done) | (simp; omega)))))⟩
  cases hZ : (isDig b8 && isDig b9)
  case false =>
    have HV := hide (good_bad (show goodB b0 b1 b2 b3 b4 b5 b6 b7 b8 b9 = false from by simp only [goodB, hA, hM, hZ, Bool.false_and, Bool.and_false]))
    have D4 := hide (digT4_yes hA)
    have D7 := hide (digT2_yes hM)
    have D10 := hide (digT2_no hZ)
    clear hA hM hZ h4 h7
    go_enter Tryd.func28, Tryd.ntmps28
    go_wp2_with fail
    refine (l03Digits_val D4.out (by simp) _).mono ?_
    rintro e w' ⟨rfl, rfl⟩
    go_wp2_with fail
    refine (l03Digits_val D7.out (by simp) _).mono ?_
    rintro e w' ⟨rfl, rfl⟩
    go_wp2_with fail
    refine (l03Digits_val D10.out (by simp) _).mono ?_
    rintro e w' ⟨rfl, rfl⟩
    go_wp2
    exact bodyPost_ret (v := .tuple #[.agg #[.int .i64 0, .int .i64 0, .int .i64 0], .bool false]) (by simp [results, Tryd.results28, go_sem]) rfl ⟨HV.out, (by repeat (first | exact Below.refl _ _ | assumption | refine Below.drew ?_ | refine below_drewN ?_ _ | refine Below.alloc ?_ (by first | omega | (simp; done) | (simp; omega)) _ | refine Below.setCell ?_ (by first | omega | (simp; done) | (simp; omega)) _ | refine Below.trans ?_ (Below.mono (by assumption) (by first | omega | (simp; done) | (simp; omega)))))⟩
  have hgv : goodB b0 b1 b2 b3 b4 b5 b6 b7 b8 b9 = vdate (yr b0 b1 b2 b3) (tw b5 b6) (tw b8 b9) := by
    subst h4 h7
    simp only [goodB, hA, hM, hZ, Bool.true_and, Bool.and_true, beq_self_eq_true]
  have D4 := hide (digT4_yes hA)
  have D7 := hide (digT2_yes hM)
  have D10 := hide (digT2_yes hZ)
  clear hA hM hZ h4 h7
  cases hv : vdate (yr b0 b1 b2 b3) (tw b5 b6) (tw b8 b9)
  case false =>
    have HV := hide (good_bad (hgv.trans hv))
    have HG := hide hv
    clear hgv hv
    go_enter Tryd.func28, Tryd.ntmps28
    go_wp2_with fail
    refine (l03Digits_val D4.out (by simp) _).mono ?_
    rintro e w' ⟨rfl, rfl⟩
    go_wp2_with fail
    refine (l03Digits_val D7.out (by simp) _).mono ?_
    rintro e w' ⟨rfl, rfl⟩
    go_wp2_with fail
    refine (l03Digits_val D10.out (by simp) _).mono ?_
    rintro e w' ⟨rfl, rfl⟩
    go_wp2_with fail
    refine (spec_ValidDate_any _ _ _ _).mono ?_
    rintro e w' ⟨rfl, hb⟩
    obtain ⟨hcb, hfb⟩ := bcell hb
    have hzb := hb.size
    simp at hzb
    have HB2 := hide (Below.trans (show Below w.heap.size w _ from by repeat (first | exact Below.refl _ _ | assumption | refine Below.drew ?_ | refine below_drewN ?_ _ | refine Below.alloc ?_ (by first | omega | (simp; done) | (simp; omega)) _ | refine Below.setCell ?_ (by first | omega | (simp; done) | (simp; omega)) _ | refine Below.trans ?_ (Below.mono (by assumption) (by first | omega | (simp; done) | (simp; omega))))) (hb.mono (by simp; omega)))
    have hz0 : w.heap.size < w'.heap.size := by omega
    have hz1 : w.heap.size + 1 < w'.heap.size := by omega
    have c0 : w'.cell? ⟨w.heap.size, 0, none⟩ = some (.int .i64 0) := (hcb w.heap.size 0 (by simp; omega)).trans (by simp [go_sem])
    have q0 : w'.frozen? ⟨w.heap.size, 0, none⟩ = false := (hfb w.heap.size 0 (by simp; omega)).trans (by simp [go_sem])
    have d0 : w'.cell? ⟨w.heap.size + 1, 0, none⟩ = some (.int .i64 (yr b0 b1 b2 b3 : Int)) := (hcb (w.heap.size + 1) 0 (by simp)).trans (by simp [go_sem])
    have c1 : w'.cell? ⟨w.heap.size, 1, none⟩ = some (.int .i64 0) := (hcb w.heap.size 1 (by simp; omega)).trans (by simp [go_sem])
    have q1 : w'.frozen? ⟨w.heap.size, 1, none⟩ = false := (hfb w.heap.size 1 (by simp; omega)).trans (by simp [go_sem])
    have d1 : w'.cell? ⟨w.heap.size + 1, 1, none⟩ = some (.int .i64 (tw b5 b6 : Int)) := (hcb (w.heap.size + 1) 1 (by simp)).trans (by simp [go_sem])
    have c2 : w'.cell? ⟨w.heap.size, 2, none⟩ = some (.int .i64 0) := (hcb w.heap.size 2 (by simp; omega)).trans (by simp [go_sem])
    have q2 : w'.frozen? ⟨w.heap.size, 2, none⟩ = false := (hfb w.heap.size 2 (by simp; omega)).trans (by simp [go_sem])
    have d2 : w'.cell? ⟨w.heap.size + 1, 2, none⟩ = some (.int .i64 (tw b8 b9 : Int)) := (hcb (w.heap.size + 1) 2 (by simp)).trans (by simp [go_sem])
    have hvv := HG.out
    clear hcb hfb hb hzb
    go_wp2
    exact bodyPost_ret (v := .tuple #[.agg #[.int .i64 0, .int .i64 0, .int .i64 0], .bool false]) (by simp [results, Tryd.results28, go_sem, c0, c1, c2]) rfl ⟨HV.out, by refine Below.trans HB2.out ?_; repeat (first | exact Below.refl _ _ | assumption | refine Below.drew ?_ | refine below_drewN ?_ _ | refine Below.alloc ?_ (by first | omega | (simp; done) | (simp; omega)) _ | refine Below.setCell ?_ (by first | omega | (simp; done) | (simp; omega)) _ | refine Below.trans ?_ (Below.mono (by assumption) (by first | omega | (simp; done) | (simp; omega))))⟩
  case true =>
    have HV := hide (good_good (hgv.trans hv))
    have HG := hide hv
    clear hgv hv
    go_enter Tryd.func28, Tryd.ntmps28
    go_wp2_with fail
    refine (l03Digits_val D4.out (by simp) _).mono ?_
    rintro e w' ⟨rfl, rfl⟩
    go_wp2_with fail
    refine (l03Digits_val D7.out (by simp) _).mono ?_
    rintro e w' ⟨rfl, rfl⟩
    go_wp2_with fail
    refine (l03Digits_val D10.out (by simp) _).mono ?_
    rintro e w' ⟨rfl, rfl⟩
    go_wp2_with fail
    refine (spec_ValidDate_any _ _ _ _).mono ?_
    rintro e w' ⟨rfl, hb⟩
    obtain ⟨hcb, hfb⟩ := bcell hb
    have hzb := hb.size
    simp at hzb
    have HB2 := hide (Below.trans (show Below w.heap.size w _ from by repeat (first | exact Below.refl _ _ | assumption | refine Below.drew ?_ | refine below_drewN ?_ _ | refine Below.alloc ?_ (by first | omega | (simp; done) | (simp; omega)) _ | refine Below.setCell ?_ (by first | omega | (simp; done) | (simp; omega)) _ | refine Below.trans ?_ (Below.mono (by assumption) (by first | omega | (simp; done) | (simp; omega))))) (hb.mono (by simp; omega)))
    have hz0 : w.heap.size < w'.heap.size := by omega
    have hz1 : w.heap.size + 1 < w'.heap.size := by omega
    have c0 : w'.cell? ⟨w.heap.size, 0, none⟩ = some (.int .i64 0) := (hcb w.heap.size 0 (by simp; omega)).trans (by simp [go_sem])
    have q0 : w'.frozen? ⟨w.heap.size, 0, none⟩ = false := (hfb w.heap.size 0 (by simp; omega)).trans (by simp [go_sem])
    have d0 : w'.cell? ⟨w.heap.size + 1, 0, none⟩ = some (.int .i64 (yr b0 b1 b2 b3 : Int)) := (hcb (w.heap.size + 1) 0 (by simp)).trans (by simp [go_sem])
    have c1 : w'.cell? ⟨w.heap.size, 1, none⟩ = some (.int .i64 0) := (hcb w.heap.size 1 (by simp; omega)).trans (by simp [go_sem])
    have q1 : w'.frozen? ⟨w.heap.size, 1, none⟩ = false := (hfb w.heap.size 1 (by simp; omega)).trans (by simp [go_sem])
    have d1 : w'.cell? ⟨w.heap.size + 1, 1, none⟩ = some (.int .i64 (tw b5 b6 : Int)) := (hcb (w.heap.size + 1) 1 (by simp)).trans (by simp [go_sem])
    have c2 : w'.cell? ⟨w.heap.size, 2, none⟩ = some (.int .i64 0) := (hcb w.heap.size 2 (by simp; omega)).trans (by simp [go_sem])
    have q2 : w'.frozen? ⟨w.heap.size, 2, none⟩ = false := (hfb w.heap.size 2 (by simp; omega)).trans (by simp [go_sem])
    have d2 : w'.cell? ⟨w.heap.size + 1, 2, none⟩ = some (.int .i64 (tw b8 b9 : Int)) := (hcb (w.heap.size + 1) 2 (by simp)).trans (by simp [go_sem])
    have hvv := HG.out
    clear hcb hfb hb hzb
    go_wp2
    exact bodyPost_ret (v := .tuple #[.agg #[.int .i64 (yr b0 b1 b2 b3 : Int), .int .i64 (tw b5 b6 : Int), .int .i64 (tw b8 b9 : Int)], .bool true]) (by simp [results, Tryd.results28, go_sem, c0, c1, c2]) rfl ⟨HV.out, by refine Below.trans HB2.out ?_; repeat (first | exact Below.refl _ _ | assumption | refine Below.drew ?_ | refine below_drewN ?_ _ | refine Below.alloc ?_ (by first | omega | (simp; done) | (simp; omega)) _ | refine Below.setCell ?_ (by first | omega | (simp; done) | (simp; omega)) _ | refine Below.trans ?_ (Below.mono (by assumption) (by first | omega | (simp; done) | (simp; omega))))⟩
def dY (l : List UInt8) : Int := match l with | [b0, b1, b2, b3, b4, b5, b6, b7, b8, b9] => rdY b0 b1 b2 b3 b4 b5 b6 b7 b8 b9 | _ => 0
def dM (l : List UInt8) : Int := match l with | [b0, b1, b2, b3, b4, b5, b6, b7, b8, b9] => rdM b0 b1 b2 b3 b4 b5 b6 b7 b8 b9 | _ => 0
def dZ (l : List UInt8) : Int := match l with | [b0, b1, b2, b3, b4, b5, b6, b7, b8, b9] => rdZ b0 b1 b2 b3 b4 b5 b6 b7 b8 b9 | _ => 0
def dG (l : List UInt8) : Bool := match l with | [b0, b1, b2, b3, b4, b5, b6, b7, b8, b9] => goodB b0 b1 b2 b3 b4 b5 b6 b7 b8 b9 | _ => false
theorem ten_of {l : List UInt8} (h : l.length = 10) : ∃ b0 b1 b2 b3 b4 b5 b6 b7 b8 b9, l = [b0, b1, b2, b3, b4, b5, b6, b7, b8, b9] := by
  match l, h with
  | [b0, b1, b2, b3, b4, b5, b6, b7, b8, b9], _ => exact ⟨b0, b1, b2, b3, b4, b5, b6, b7, b8, b9, rfl⟩
theorem dY_ne {l : List UInt8} (h : ¬ l.length = 10) : dY l = 0 := by
  unfold dY
  split
  · simp at h
  · rfl
theorem dM_ne {l : List UInt8} (h : ¬ l.length = 10) : dM l = 0 := by
  unfold dM
  split
  · simp at h
  · rfl
theorem dZ_ne {l : List UInt8} (h : ¬ l.length = 10) : dZ l = 0 := by
  unfold dZ
  split
  · simp at h
  · rfl
theorem dG_ne {l : List UInt8} (h : ¬ l.length = 10) : dG l = false := by
  unfold dG
  split
  · simp at h
  · rfl
theorem date_ne {l : List UInt8} (h : ¬ l.length = 10) : Ending.returned (.tuple #[.agg #[.int .i64 0, .int .i64 0, .int .i64 0], .bool false]) = Ending.returned (.tuple #[.agg #[.int .i64 (dY l), .int .i64 (dM l), .int .i64 (dZ l)], .bool (dG l)]) := by rw [dY_ne h, dM_ne h, dZ_ne h, dG_ne h]
theorem spec_ReadDate_any (l : List UInt8) (hl : l.length ≤ 1048577) (w : World) : Calls Tryd.prog 28 #[.string ⟨l.toArray⟩] w fun e w' => e = .returned (.tuple #[.agg #[.int .i64 (dY l), .int .i64 (dM l), .int .i64 (dZ l)], .bool (dG l)]) ∧ Below w.heap.size w w' := by
  by_cases h : l.length = 10
  · obtain ⟨b0, b1, b2, b3, b4, b5, b6, b7, b8, b9, rfl⟩ := ten_of h
    exact spec_ReadDate10 b0 b1 b2 b3 b4 b5 b6 b7 b8 b9 w
  · have HV := hide (date_ne h)
    have hn : ((l.length : Int) == 10) = false := by
      have h2 : ¬ (l.length : Int) = 10 := by omega
      simpa using h2
    skip
    go_enter Tryd.func28, Tryd.ntmps28
    go_wp2
    exact bodyPost_ret (v := .tuple #[.agg #[.int .i64 0, .int .i64 0, .int .i64 0], .bool false]) (by simp [results, Tryd.results28, go_sem]) rfl ⟨HV.out, (by repeat (first | exact Below.refl _ _ | assumption | refine Below.drew ?_ | refine below_drewN ?_ _ | refine Below.alloc ?_ (by first | omega | (simp; done) | (simp; omega)) _ | refine Below.setCell ?_ (by first | omega | (simp; done) | (simp; omega)) _ | refine Below.trans ?_ (Below.mono (by assumption) (by first | omega | (simp; done) | (simp; omega)))))⟩
theorem impl_ReadDate_any (l : List UInt8) (hl : l.length ≤ 1048577) (w : World) (T : Tab w) : Calls Tryd.prog 29 #[.string ⟨l.toArray⟩] w fun e w' => e = .returned (.tuple #[.agg #[.int .i64 (dY l), .int .i64 (dM l), .int .i64 (dZ l)], .bool (dG l)]) ∧ Below w.heap.size w w' := by
  by_cases h : l.length = 10
  · obtain ⟨b0, b1, b2, b3, b4, b5, b6, b7, b8, b9, rfl⟩ := ten_of h
    exact impl_ReadDate10 b0 b1 b2 b3 b4 b5 b6 b7 b8 b9 w T
  · have HV := hide (date_ne h)
    have hn : ((l.length : Int) == 10) = false := by
      have h2 : ¬ (l.length : Int) = 10 := by omega
      simpa using h2
    clear T
    go_enter Tryd.func29, Tryd.ntmps29
    go_wp2
    exact bodyPost_ret (v := .tuple #[.agg #[.int .i64 0, .int .i64 0, .int .i64 0], .bool false]) (by simp [results, Tryd.results29, go_sem]) rfl ⟨HV.out, (by repeat (first | exact Below.refl _ _ | assumption | refine Below.drew ?_ | refine below_drewN ?_ _ | refine Below.alloc ?_ (by first | omega | (simp; done) | (simp; omega)) _ | refine Below.setCell ?_ (by first | omega | (simp; done) | (simp; omega)) _ | refine Below.trans ?_ (Below.mono (by assumption) (by first | omega | (simp; done) | (simp; omega)))))⟩
theorem rde_end : True := trivial
end Go.Proofs.YtdplmbndafmlgaaDoor
