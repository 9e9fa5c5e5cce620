/-
  Contracts: dates that are read, whole.
-/
import Derived.Test.YtdplmbndafmlgaaDoorRdC
import Derived.Test.YtdplmbndafmlgaaDoorStr
import Derived.Deep.RegionHeld3
import Derived.Deep.DeepCutAuto
namespace Go.Proofs.YtdplmbndafmlgaaDoor
open Go.RowKit Pl
set_option linter.unusedVariables false
set_option linter.unusedSimpArgs false
def dv (a : UInt8) : Nat := a.toNat - 48
def isDig (a : UInt8) : Bool := decide (48 ≤ a.toNat ∧ a.toNat ≤ 57)
def yr (a b c d : UInt8) : Nat := ((dv a * 10 + dv b) * 10 + dv c) * 10 + dv d
def tw (a b : UInt8) : Nat := dv a * 10 + dv b
theorem isDig_iff {a : UInt8} : isDig a = true ↔ 48 ≤ a.toNat ∧ a.toNat ≤ 57 := by simp [isDig]
theorem digitVal_dv {a : UInt8} (h : isDig a = true) : Lib.digitVal a = some (dv a) := by unfold Lib.digitVal dv; rw [if_pos (isDig_iff.1 h)]
theorem digitVal_no {a : UInt8} (h : isDig a = false) : Lib.digitVal a = none := by
  unfold Lib.digitVal
  rw [if_neg]
  intro k
  rw [isDig_iff.2 k] at h
  cases h
theorem decFrom_cons (acc : Nat) (a : UInt8) (l : List UInt8) : Lib.decFrom acc (a :: l) = match Lib.digitVal a with | some d => Lib.decFrom (acc * 10 + d) l | none => none := rfl
theorem digT4 (a b c d : UInt8) : digT [a, b, c, d] = if isDig a && isDig b && isDig c && isDig d then ((yr a b c d : Int), true) else (0, false) := by
  unfold digT
  cases ha : isDig a
  · rw [decFrom_cons, digitVal_no ha]; simp
  rw [decFrom_cons, digitVal_dv ha]
  cases hb : isDig b
  · dsimp only; rw [decFrom_cons, digitVal_no hb]; simp
  dsimp only
  rw [decFrom_cons, digitVal_dv hb]
  cases hc : isDig c
  · dsimp only; rw [decFrom_cons, digitVal_no hc]; simp
  dsimp only
  rw [decFrom_cons, digitVal_dv hc]
  cases hd : isDig d
  · dsimp only; rw [decFrom_cons, digitVal_no hd]; simp
  dsimp only
  rw [decFrom_cons, digitVal_dv hd]
  simp [Lib.decFrom, yr]
theorem digT2 (a b : UInt8) : digT [a, b] = if isDig a && isDig b then ((tw a b : Int), true) else (0, false) := by
  unfold digT
  cases ha : isDig a
  · rw [decFrom_cons, digitVal_no ha]; simp
  rw [decFrom_cons, digitVal_dv ha]
  cases hb : isDig b
  · dsimp only; rw [decFrom_cons, digitVal_no hb]; simp
  dsimp only
  rw [decFrom_cons, digitVal_dv hb]
  simp [Lib.decFrom, tw]
theorem isDig_dig (u : Nat) : isDig (dig u) = true := by
  have h := dig_toNat u
  rw [isDig_iff]
  omega
theorem wz_digu (u : Nat) : wz (dig u) = u % 10 := by
  have h := dig_toNat u
  unfold wz
  omega
theorem dv_digu (u : Nat) : dv (dig u) = u % 10 := by
  have h := dig_toNat u
  unfold dv
  omega
theorem wz_dv {a : UInt8} (h : isDig a = true) : wz a = dv a := wz_dig (isDig_iff.1 h).1 (isDig_iff.1 h).2
theorem dig_dv {a : UInt8} {u : Nat} (h : isDig a = true) (hu : u % 10 = dv a) : dig u = a := by
  have h1 := dig_toNat u
  have h2 := isDig_iff.1 h
  apply UInt8.toNat_inj.1
  unfold dv at hu
  omega
theorem dv_le {a : UInt8} (h : isDig a = true) : dv a ≤ 9 := by have h2 := isDig_iff.1 h; unfold dv; omega
def goodB (b0 b1 b2 b3 b4 b5 b6 b7 b8 b9 : UInt8) : Bool := isDig b0 && isDig b1 && isDig b2 && isDig b3 && (isDig b5 && isDig b6) && (isDig b8 && isDig b9) && (b4 == 45) && (b7 == 45) && vdate (yr b0 b1 b2 b3) (tw b5 b6) (tw b8 b9)
theorem good_yes {b0 b1 b2 b3 b4 b5 b6 b7 b8 b9 : UInt8} (h : goodB b0 b1 b2 b3 b4 b5 b6 b7 b8 b9 = true) : td b0 b1 * 100 + td b2 b3 = yr b0 b1 b2 b3 ∧ td b5 b6 = tw b5 b6 ∧ td b8 b9 = tw b8 b9 ∧ vdate (yr b0 b1 b2 b3) (tw b5 b6) (tw b8 b9) = true ∧ dateText (yr b0 b1 b2 b3) (tw b5 b6) (tw b8 b9) = [b0, b1, b2, b3, b4, b5, b6, b7, b8, b9] := by
  simp only [goodB, Bool.and_eq_true, beq_iff_eq] at h
  obtain ⟨⟨⟨⟨⟨⟨⟨⟨h0, h1⟩, h2⟩, h3⟩, h5, h6⟩, h8, h9⟩, h4⟩, h7⟩, hv⟩ := h
  have l0 := dv_le h0; have l1 := dv_le h1; have l2 := dv_le h2; have l3 := dv_le h3; have l5 := dv_le h5; have l6 := dv_le h6; have l8 := dv_le h8; have l9 := dv_le h9
  refine ⟨?_, ?_, ?_, hv, ?_⟩
  · unfold td yr; rw [wz_dv h0, wz_dv h1, wz_dv h2, wz_dv h3]; omega
  · unfold td tw; rw [wz_dv h5, wz_dv h6]
  · unfold td tw; rw [wz_dv h8, wz_dv h9]
  · rw [dateText, if_pos hv, dateT, Int.toNat_natCast, Int.toNat_natCast, Int.toNat_natCast, pd_4, pd_2, pd_2]
    have k0 : dig (yr b0 b1 b2 b3 / 10 / 10 / 10) = b0 := dig_dv h0 (by unfold yr; omega)
    have k1 : dig (yr b0 b1 b2 b3 / 10 / 10) = b1 := dig_dv h1 (by unfold yr; omega)
    have k2 : dig (yr b0 b1 b2 b3 / 10) = b2 := dig_dv h2 (by unfold yr; omega)
    have k3 : dig (yr b0 b1 b2 b3) = b3 := dig_dv h3 (by unfold yr; omega)
    have k5 : dig (tw b5 b6 / 10) = b5 := dig_dv h5 (by unfold tw; omega)
    have k6 : dig (tw b5 b6) = b6 := dig_dv h6 (by unfold tw; omega)
    have k8 : dig (tw b8 b9 / 10) = b8 := dig_dv h8 (by unfold tw; omega)
    have k9 : dig (tw b8 b9) = b9 := dig_dv h9 (by unfold tw; omega)
    rw [k0, k1, k2, k3, k5, k6, k8, k9, h4, h7]
    rfl
theorem good_no {b0 b1 b2 b3 b4 b5 b6 b7 b8 b9 : UInt8} (h : goodB b0 b1 b2 b3 b4 b5 b6 b7 b8 b9 = false) : ¬ dateText ((td b0 b1 * 100 + td b2 b3 : Nat) : Int) (td b5 b6 : Nat) (td b8 b9 : Nat) = [b0, b1, b2, b3, b4, b5, b6, b7, b8, b9] := by
  intro e
  obtain ⟨N, hN⟩ : ∃ N, N = td b0 b1 * 100 + td b2 b3 := ⟨_, rfl⟩
  obtain ⟨M, hM⟩ : ∃ M, M = td b5 b6 := ⟨_, rfl⟩
  obtain ⟨Z, hZ⟩ : ∃ Z, Z = td b8 b9 := ⟨_, rfl⟩
  rw [← hN, ← hM, ← hZ] at e
  cases hv : vdate (N : Int) (M : Int) (Z : Int)
  · rw [dateText, hv] at e
    simp at e
  · rw [dateText, if_pos hv, dateT, Int.toNat_natCast, Int.toNat_natCast, Int.toNat_natCast, pd_4, pd_2, pd_2] at e
    simp only [List.cons_append, List.nil_append, List.cons.injEq, and_true] at e
    obtain ⟨rfl, rfl, rfl, rfl, rfl, rfl, rfl, rfl, rfl, rfl⟩ := e
    have b := vdate_bd hv
    unfold td at hN hM hZ
    simp only [wz_digu] at hN hM hZ
    have g : goodB (dig (N / 10 / 10 / 10)) (dig (N / 10 / 10)) (dig (N / 10)) (dig N) 45 (dig (M / 10)) (dig M) 45 (dig (Z / 10)) (dig Z) = true := by
      simp only [goodB, isDig_dig, Bool.true_and, beq_self_eq_true]
      have e1 : yr (dig (N / 10 / 10 / 10)) (dig (N / 10 / 10)) (dig (N / 10)) (dig N) = N := by unfold yr; simp only [dv_digu]; omega
      have e2 : tw (dig (M / 10)) (dig M) = M := by unfold tw; simp only [dv_digu]; omega
      have e3 : tw (dig (Z / 10)) (dig Z) = Z := by unfold tw; simp only [dv_digu]; omega
      rw [e1, e2, e3]
      exact hv
    rw [g] at h
    cases h
def rdY (b0 b1 b2 b3 b4 b5 b6 b7 b8 b9 : UInt8) : Int := if goodB b0 b1 b2 b3 b4 b5 b6 b7 b8 b9 = true then yr b0 b1 b2 b3 else 0
def rdM (b0 b1 b2 b3 b4 b5 b6 b7 b8 b9 : UInt8) : Int := if goodB b0 b1 b2 b3 b4 b5 b6 b7 b8 b9 = true then tw b5 b6 else 0
def rdZ (b0 b1 b2 b3 b4 b5 b6 b7 b8 b9 : UInt8) : Int := if goodB b0 b1 b2 b3 b4 b5 b6 b7 b8 b9 = true then tw b8 b9 else 0
theorem l03Digits_val {t : List UInt8} {x : Int} {b : Bool} (h : digT t = (x, b)) (h18 : t.length ≤ 18) (w : World) : Calls Tryd.prog 65 #[.string ⟨t.toArray⟩] w fun e w' => e = .returned (.tuple #[.int .i64 x, .bool b]) ∧ w = w' := by
  have k := l03Digits_any t h18 w
  rw [h] at k
  exact k
set_option maxHeartbeats 2000000 in
set_option maxRecDepth 100000 in
theorem impl_ReadDate10 (b0 b1 b2 b3 b4 b5 b6 b7 b8 b9 : UInt8) (w : World) (T : Tab w) : Calls Tryd.prog 29 #[.string ⟨#[b0, b1, b2, b3, b4, b5, b6, b7, b8, b9]⟩] w fun e w' => e = .returned (.tuple #[.agg #[.int .i64 (rdY b0 b1 b2 b3 b4 b5 b6 b7 b8 b9), .int .i64 (rdM b0 b1 b2 b3 b4 b5 b6 b7 b8 b9), .int .i64 (rdZ b0 b1 b2 b3 b4 b5 b6 b7 b8 b9)], .bool (goodB b0 b1 b2 b3 b4 b5 b6 b7 b8 b9)]) ∧ Below w.heap.size w w' := by
  have HT := hide T
  clear T
  have x02 : (⟨#[b0, b1, b2, b3, b4, b5, b6, b7, b8, b9]⟩ : ByteArray).extract 0 2 = ⟨#[b0, b1]⟩ := by apply ByteArray.ext; simp
  have x24 : (⟨#[b0, b1, b2, b3, b4, b5, b6, b7, b8, b9]⟩ : ByteArray).extract 2 4 = ⟨#[b2, b3]⟩ := by apply ByteArray.ext; simp
  have x57 : (⟨#[b0, b1, b2, b3, b4, b5, b6, b7, b8, b9]⟩ : ByteArray).extract 5 7 = ⟨#[b5, b6]⟩ := by apply ByteArray.ext; simp
  have x810 : (⟨#[b0, b1, b2, b3, b4, b5, b6, b7, b8, b9]⟩ : ByteArray).extract 8 10 = ⟨#[b8, b9]⟩ := by apply ByteArray.ext; simp
  have t0 := td_le b0 b1
  have t2 := td_le b2 b3
  have t5 := td_le b5 b6
  have t8 := td_le b8 b9
  have hm : IntKind.i64.wrap ((td b0 b1 : Int) * 100) = (td b0 b1 : Int) * 100 := by rw [IntKind.wrap_i64]; omega
  have hs : IntKind.i64.wrap ((td b0 b1 : Int) * 100 + (td b2 b3 : Int)) = (td b0 b1 : Int) * 100 + (td b2 b3 : Int) := by rw [IntKind.wrap_i64]; omega
  cases hg : goodB b0 b1 b2 b3 b4 b5 b6 b7 b8 b9
  ·
    have hdt0 := good_no hg
    have hdt : (dateText ((td b0 b1 : Int) * 100 + (td b2 b3 : Int)) (td b5 b6 : Int) (td b8 b9 : Int) == [b0, b1, b2, b3, b4, b5, b6, b7, b8, b9]) = false := by
      rw [beq_eq_false_iff_ne]
      intro e
      exact hdt0 (by rw [show ((td b0 b1 * 100 + td b2 b3 : Nat) : Int) = (td b0 b1 : Int) * 100 + (td b2 b3 : Int) from by omega]; exact e)
    have hdt2 : ¬ dateText ((td b0 b1 : Int) * 100 + (td b2 b3 : Int)) (td b5 b6 : Int) (td b8 b9 : Int) = [b0, b1, b2, b3, b4, b5, b6, b7, b8, b9] := by simpa using hdt
    have HV := hide (show Ending.returned (.tuple #[.agg #[.int .i64 0, .int .i64 0, .int .i64 0], .bool false]) = Ending.returned (.tuple #[.agg #[.int .i64 (rdY b0 b1 b2 b3 b4 b5 b6 b7 b8 b9), .int .i64 (rdM b0 b1 b2 b3 b4 b5 b6 b7 b8 b9), .int .i64 (rdZ b0 b1 b2 b3 b4 b5 b6 b7 b8 b9)], .bool false]) from by rw [rdY, rdM, rdZ, hg]; rfl)
    clear hdt0 hg
    go_enter Tryd.func29, Tryd.ntmps29
    go_upto_region 3 with fail
    go_cut [4] (fun s4 wx => s4 = .pointer (some ⟨w.heap.size + 1, 0, none⟩) ∧ Below w.heap.size w wx ∧ wx.cell? ⟨w.heap.size, 0, none⟩ = some (.int .i64 0) ∧ wx.cell? ⟨w.heap.size, 1, none⟩ = some (.int .i64 0) ∧ wx.cell? ⟨w.heap.size, 2, none⟩ = some (.int .i64 0) ∧ wx.frozen? ⟨w.heap.size, 0, none⟩ = false ∧ wx.frozen? ⟨w.heap.size, 1, none⟩ = false ∧ wx.frozen? ⟨w.heap.size, 2, none⟩ = false ∧ wx.cell? ⟨w.heap.size + 1, 0, none⟩ = some (.int .i64 ((td b0 b1 : Int) * 100 + (td b2 b3 : Int))) ∧ wx.cell? ⟨w.heap.size + 1, 1, none⟩ = some (.int .i64 (td b5 b6 : Int)) ∧ wx.cell? ⟨w.heap.size + 1, 2, none⟩ = some (.int .i64 (td b8 b9 : Int)) ∧ w.heap.size + 1 < wx.heap.size)
    case first =>
      go_region_held3 (fun w' => True) (trivial) (first | (go_at_call_of 66 (Value.string ⟨#[b0, b1]⟩); refine (twoDigits_any b0 b1 _).mono ?_; rintro e w' ⟨rfl, m, rfl⟩) | (go_at_call_of 66 (Value.string ⟨#[b2, b3]⟩); refine (twoDigits_any b2 b3 _).mono ?_; rintro e w' ⟨rfl, m, rfl⟩) | (go_at_call_of 66 (Value.string ⟨#[b5, b6]⟩); refine (twoDigits_any b5 b6 _).mono ?_; rintro e w' ⟨rfl, m, rfl⟩) | (go_at_call_of 66 (Value.string ⟨#[b8, b9]⟩); refine (twoDigits_any b8 b9 _).mono ?_; rintro e w' ⟨rfl, m, rfl⟩))
      all_goals
        go_wp2_with fail
        go_meet
        exact ⟨rfl, (by repeat (first | exact Below.refl _ _ | assumption | refine Below.drew ?_ | refine below_drewN ?_ _ | refine Below.alloc ?_ (by first | omega | (simp; done) | (simp; omega)) _ | refine Below.setCell ?_ (by first | omega | (simp; done) | (simp; omega)) _ | refine Below.trans ?_ (Below.mono (by assumption) (by first | omega | (simp; done) | (simp; omega))))), by simp [go_sem], by simp [go_sem], by simp [go_sem], by simp [go_sem], by simp [go_sem], by simp [go_sem], by simp [go_sem], by simp [go_sem], by simp [go_sem], by simp⟩
    case rest =>
      obtain ⟨rfl, B, C0, C1, C2, Q0, Q1, Q2, D0, D1, D2, L⟩ := hcut
      have HB := hide B
      have C0 := hide C0
      have C1 := hide C1
      have C2 := hide C2
      have Q0 := hide Q0
      have Q1 := hide Q1
      have Q2 := hide Q2
      clear B
      go_wp2_with fail
      refine (impl_DateText_any _ _ _ _ (HT.out.below HB.out)).mono ?_
      rintro e w' ⟨rfl, hb⟩
      obtain ⟨hcb, hfb⟩ := bcell hb
      have hzb := hb.size
      have HB2 := hide (HB.out.trans (hb.mono HB.out.size))
      have hz0 : w.heap.size < w'.heap.size := by omega
      have hz1 : w.heap.size + 1 < w'.heap.size := by omega
      have c0 : w'.cell? ⟨w.heap.size, 0, none⟩ = some (.int .i64 0) := (hcb w.heap.size 0 (by omega)).trans C0.out
      have q0 : w'.frozen? ⟨w.heap.size, 0, none⟩ = false := (hfb w.heap.size 0 (by omega)).trans Q0.out
      have d0 : w'.cell? ⟨w.heap.size + 1, 0, none⟩ = some (.int .i64 ((td b0 b1 : Int) * 100 + (td b2 b3 : Int))) := (hcb (w.heap.size + 1) 0 (by omega)).trans D0
      have c1 : w'.cell? ⟨w.heap.size, 1, none⟩ = some (.int .i64 0) := (hcb w.heap.size 1 (by omega)).trans C1.out
      have q1 : w'.frozen? ⟨w.heap.size, 1, none⟩ = false := (hfb w.heap.size 1 (by omega)).trans Q1.out
      have d1 : w'.cell? ⟨w.heap.size + 1, 1, none⟩ = some (.int .i64 (td b5 b6 : Int)) := (hcb (w.heap.size + 1) 1 (by omega)).trans D1
      have c2 : w'.cell? ⟨w.heap.size, 2, none⟩ = some (.int .i64 0) := (hcb w.heap.size 2 (by omega)).trans C2.out
      have q2 : w'.frozen? ⟨w.heap.size, 2, none⟩ = false := (hfb w.heap.size 2 (by omega)).trans Q2.out
      have d2 : w'.cell? ⟨w.heap.size + 1, 2, none⟩ = some (.int .i64 (td b8 b9 : Int)) := (hcb (w.heap.size + 1) 2 (by omega)).trans D2
      clear hcb hfb hb hzb C0 C1 C2 Q0 Q1 Q2 D0 D1 D2
      go_wp2
      exact bodyPost_ret (v := .tuple #[.agg #[.int .i64 0, .int .i64 0, .int .i64 0], .bool false]) (by simp [results, Tryd.results29, go_sem, c0, c1, c2]) rfl ⟨HV.out, by refine Below.trans HB2.out ?_; repeat (first | exact Below.refl _ _ | assumption | refine Below.drew ?_ | refine below_drewN ?_ _ | refine Below.alloc ?_ (by first | omega | (simp; done) | (simp; omega)) _ | refine Below.setCell ?_ (by first | omega | (simp; done) | (simp; omega)) _ | refine Below.trans ?_ (Below.mono (by assumption) (by first | omega | (simp; done) | (simp; omega))))⟩
  ·
    obtain ⟨q1, q2, q3, q4, q5⟩ := good_yes hg
    have hdt : dateText ((td b0 b1 : Int) * 100 + (td b2 b3 : Int)) (td b5 b6 : Int) (td b8 b9 : Int) = [b0, b1, b2, b3, b4, b5, b6, b7, b8, b9] := by rw [show (td b0 b1 : Int) * 100 + (td b2 b3 : Int) = (yr b0 b1 b2 b3 : Int) from by omega, q2, q3]; exact q5
    have HV := hide (show Ending.returned (.tuple #[.agg #[.int .i64 ((td b0 b1 : Int) * 100 + (td b2 b3 : Int)), .int .i64 (td b5 b6 : Int), .int .i64 (td b8 b9 : Int)], .bool true]) = Ending.returned (.tuple #[.agg #[.int .i64 (rdY b0 b1 b2 b3 b4 b5 b6 b7 b8 b9), .int .i64 (rdM b0 b1 b2 b3 b4 b5 b6 b7 b8 b9), .int .i64 (rdZ b0 b1 b2 b3 b4 b5 b6 b7 b8 b9)], .bool true]) from by rw [rdY, rdM, rdZ, if_pos hg, if_pos hg, if_pos hg, show (td b0 b1 : Int) * 100 + (td b2 b3 : Int) = (yr b0 b1 b2 b3 : Int) from by omega, q2, q3])
    clear q1 q2 q3 q4 q5 hg
    go_enter Tryd.func29, Tryd.ntmps29
    go_upto_region 3 with fail
    go_cut [4] (fun s4 wx => s4 = .pointer (some ⟨w.heap.size + 1, 0, none⟩) ∧ Below w.heap.size w wx ∧ wx.cell? ⟨w.heap.size, 0, none⟩ = some (.int .i64 0) ∧ wx.cell? ⟨w.heap.size, 1, none⟩ = some (.int .i64 0) ∧ wx.cell? ⟨w.heap.size, 2, none⟩ = some (.int .i64 0) ∧ wx.frozen? ⟨w.heap.size, 0, none⟩ = false ∧ wx.frozen? ⟨w.heap.size, 1, none⟩ = false ∧ wx.frozen? ⟨w.heap.size, 2, none⟩ = false ∧ wx.cell? ⟨w.heap.size + 1, 0, none⟩ = some (.int .i64 ((td b0 b1 : Int) * 100 + (td b2 b3 : Int))) ∧ wx.cell? ⟨w.heap.size + 1, 1, none⟩ = some (.int .i64 (td b5 b6 : Int)) ∧ wx.cell? ⟨w.heap.size + 1, 2, none⟩ = some (.int .i64 (td b8 b9 : Int)) ∧ w.heap.size + 1 < wx.heap.size)
    case first =>
      go_region_held3 (fun w' => True) (trivial) (first | (go_at_call_of 66 (Value.string ⟨#[b0, b1]⟩); refine (twoDigits_any b0 b1 _).mono ?_; rintro e w' ⟨rfl, m, rfl⟩) | (go_at_call_of 66 (Value.string ⟨#[b2, b3]⟩); refine (twoDigits_any b2 b3 _).mono ?_; rintro e w' ⟨rfl, m, rfl⟩) | (go_at_call_of 66 (Value.string ⟨#[b5, b6]⟩); refine (twoDigits_any b5 b6 _).mono ?_; rintro e w' ⟨rfl, m, rfl⟩) | (go_at_call_of 66 (Value.string ⟨#[b8, b9]⟩); refine (twoDigits_any b8 b9 _).mono ?_; rintro e w' ⟨rfl, m, rfl⟩))
      all_goals
        go_wp2_with fail
        go_meet
        exact ⟨rfl, (by repeat (first | exact Below.refl _ _ | assumption | refine Below.drew ?_ | refine below_drewN ?_ _ | refine Below.alloc ?_ (by first | omega | (simp; done) | (simp; omega)) _ | refine Below.setCell ?_ (by first | omega | (simp; done) | (simp; omega)) _ | refine Below.trans ?_ (Below.mono (by assumption) (by first | omega | (simp; done) | (simp; omega))))), by simp [go_sem], by simp [go_sem], by simp [go_sem], by simp [go_sem], by simp [go_sem], by simp [go_sem], by simp [go_sem], by simp [go_sem], by simp [go_sem], by simp⟩
    case rest =>
      obtain ⟨rfl, B, C0, C1, C2, Q0, Q1, Q2, D0, D1, D2, L⟩ := hcut
      have HB := hide B
      have C0 := hide C0
      have C1 := hide C1
      have C2 := hide C2
      have Q0 := hide Q0
      have Q1 := hide Q1
      have Q2 := hide Q2
      clear B
      go_wp2_with fail
      refine (impl_DateText_any _ _ _ _ (HT.out.below HB.out)).mono ?_
      rintro e w' ⟨rfl, hb⟩
      obtain ⟨hcb, hfb⟩ := bcell hb
      have hzb := hb.size
      have HB2 := hide (HB.out.trans (hb.mono HB.out.size))
      have hz0 : w.heap.size < w'.heap.size := by omega
      have hz1 : w.heap.size + 1 < w'.heap.size := by omega
      have c0 : w'.cell? ⟨w.heap.size, 0, none⟩ = some (.int .i64 0) := (hcb w.heap.size 0 (by omega)).trans C0.out
      have q0 : w'.frozen? ⟨w.heap.size, 0, none⟩ = false := (hfb w.heap.size 0 (by omega)).trans Q0.out
      have d0 : w'.cell? ⟨w.heap.size + 1, 0, none⟩ = some (.int .i64 ((td b0 b1 : Int) * 100 + (td b2 b3 : Int))) := (hcb (w.heap.size + 1) 0 (by omega)).trans D0
      have c1 : w'.cell? ⟨w.heap.size, 1, none⟩ = some (.int .i64 0) := (hcb w.heap.size 1 (by omega)).trans C1.out
      have q1 : w'.frozen? ⟨w.heap.size, 1, none⟩ = false := (hfb w.heap.size 1 (by omega)).trans Q1.out
      have d1 : w'.cell? ⟨w.heap.size + 1, 1, none⟩ = some (.int .i64 (td b5 b6 : Int)) := (hcb (w.heap.size + 1) 1 (by omega)).trans D1
      have c2 : w'.cell? ⟨w.heap.size, 2, none⟩ = some (.int .i64 0) := (hcb w.heap.size 2 (by omega)).trans C2.out
      have q2 : w'.frozen? ⟨w.heap.size, 2, none⟩ = false := (hfb w.heap.size 2 (by omega)).trans Q2.out
      have d2 : w'.cell? ⟨w.heap.size + 1, 2, none⟩ = some (.int .i64 (td b8 b9 : Int)) := (hcb (w.heap.size + 1) 2 (by omega)).trans D2
      clear hcb hfb hb hzb C0 C1 C2 Q0 Q1 Q2 D0 D1 D2
      go_wp2
      exact bodyPost_ret (v := .tuple #[.agg #[.int .i64 ((td b0 b1 : Int) * 100 + (td b2 b3 : Int)), .int .i64 (td b5 b6 : Int), .int .i64 (td b8 b9 : Int)], .bool true]) (by simp [results, Tryd.results29, go_sem, c0, c1, c2]) rfl ⟨HV.out, by refine Below.trans HB2.out ?_; repeat (first | exact Below.refl _ _ | assumption | refine Below.drew ?_ | refine below_drewN ?_ _ | refine Below.alloc ?_ (by first | omega | (simp; done) | (simp; omega)) _ | refine Below.setCell ?_ (by first | omega | (simp; done) | (simp; omega)) _ | refine Below.trans ?_ (Below.mono (by assumption) (by first | omega | (simp; done) | (simp; omega))))⟩
theorem rdd_end : True := trivial
end Go.Proofs.YtdplmbndafmlgaaDoor
