/-
  Contracts: times that are read.
-/
import Derived.Test.YtdplmbndafmlgaaDoorRtA
namespace Go.Proofs.YtdplmbndafmlgaaDoor
open Go.RowKit Pl
set_option linter.unusedVariables false
set_option linter.unusedSimpArgs false
def dig4 (b0 b1 b2 b3 : UInt8) : Bool := isDig b0 && isDig b1 && isDig b2 && isDig b3
def rdT (a : List UInt8) (b0 b1 b2 b3 : UInt8) : Int × Bool :=
  if ((resD a).2 && inB (resD a).1 0 1000 && dig4 b0 b1 b2 b3 && inB ((resD a).1 * 10000 + (yr b0 b1 b2 b3 : Int)) 0 10000000) = true then ((resD a).1 * 10000 + (yr b0 b1 b2 b3 : Int), true) else (0, false)
def readT (l : List UInt8) : Int × Bool := match Lib.cut l [46] with | (a, b, _) => match b with | [b0, b1, b2, b3] => rdT a b0 b1 b2 b3 | _ => (0, false)
theorem readT_len {l a b : List UInt8} {f : Bool} (h : Lib.cut l [46] = (a, b, f)) (hb : ¬ b.length = 4) : readT l = (0, false) := by
  rw [readT, h]
  dsimp only
  split
  · simp at hb
  · rfl
theorem readT_four {a : List UInt8} {b0 b1 b2 b3 : UInt8} (h : (46 : UInt8) ∉ a) : readT (a ++ 46 :: [b0, b1, b2, b3]) = rdT a b0 b1 b2 b3 := by rw [readT, cut_some h]
theorem rdT_ok {a : List UInt8} {b0 b1 b2 b3 : UInt8} {x : Int} (h1 : resD a = (x, true)) (h2 : inB x 0 1000 = true) (h3 : dig4 b0 b1 b2 b3 = true) (h4 : inB (x * 10000 + (yr b0 b1 b2 b3 : Int)) 0 10000000 = true) : rdT a b0 b1 b2 b3 = (x * 10000 + (yr b0 b1 b2 b3 : Int), true) := by
  unfold rdT
  rw [h1]
  dsimp only
  rw [h2, h3, h4]
  rfl
theorem rdT_y {a : List UInt8} {b0 b1 b2 b3 : UInt8} {x : Int} (h1 : resD a = (x, false)) : rdT a b0 b1 b2 b3 = (0, false) := by unfold rdT; rw [h1]; rfl
theorem rdT_i {a : List UInt8} {b0 b1 b2 b3 : UInt8} {x : Int} {y : Bool} (h1 : resD a = (x, y)) (h2 : inB x 0 1000 = false) : rdT a b0 b1 b2 b3 = (0, false) := by unfold rdT; rw [h1]; dsimp only; rw [h2, Bool.and_false, Bool.false_and, Bool.false_and]; rfl
theorem rdT_d {a : List UInt8} {b0 b1 b2 b3 : UInt8} (h3 : dig4 b0 b1 b2 b3 = false) : rdT a b0 b1 b2 b3 = (0, false) := by unfold rdT; rw [h3, Bool.and_false, Bool.false_and]; rfl
theorem rdT_v {a : List UInt8} {b0 b1 b2 b3 : UInt8} {x : Int} {y : Bool} (h1 : resD a = (x, y)) (h4 : inB (x * 10000 + (yr b0 b1 b2 b3 : Int)) 0 10000000 = false) : rdT a b0 b1 b2 b3 = (0, false) := by unfold rdT; rw [h1]; dsimp only; rw [h4, Bool.and_false]; rfl
theorem l03Time_bit {n : Int} {b : Bool} (h : inB n 0 10000000 = b) (w : World) : Calls Tryd.prog 51 #[.int .i64 n] w fun e w' => e = .returned (.bool b) ∧ w = w' := by
  have k := spec_l03Time_any n w
  rw [h] at k
  exact k
theorem dig4_no {b0 b1 b2 b3 : UInt8} (h : (46 : UInt8) ∈ [b0, b1, b2, b3]) : dig4 b0 b1 b2 b3 = false := by
  have h46 : isDig 46 = false := by decide
  simp only [List.mem_cons, List.not_mem_nil, or_false] at h
  unfold dig4
  rcases h with rfl | rfl | rfl | rfl
  all_goals simp [h46]
theorem readT_many {l : List UInt8} (h : ¬ (spl 46 l).length = 2) : readT l = (0, false) := by
  by_cases h0 : (46 : UInt8) ∈ l
  · obtain ⟨a, b, rfl, ha⟩ := part_at h0
    by_cases hb : (46 : UInt8) ∈ b
    · by_cases h4 : b.length = 4
      · match b, h4 with
        | [b0, b1, b2, b3], _ => rw [readT_four ha, rdT_d (dig4_no hb)]
      · exact readT_len (cut_some ha) h4
    · rw [spl_two ha hb] at h
      simp at h
  · exact readT_len (cut_none h0) (by simp)
/-- What the program compares at the end. -/
theorem time_yes {a : List UInt8} {b0 b1 b2 b3 : UInt8} {x : Int} (h1 : resD a = (x, true)) (h2 : inB x 0 1000 = true) (h3 : dig4 b0 b1 b2 b3 = true) (h4 : inB (x * 10000 + (yr b0 b1 b2 b3 : Int)) 0 10000000 = true) :
    x * 10000 + (td b0 b1 : Int) * 100 + (td b2 b3 : Int) = x * 10000 + (yr b0 b1 b2 b3 : Int) ∧ timeText (x * 10000 + (td b0 b1 : Int) * 100 + (td b2 b3 : Int)) = a ++ 46 :: [b0, b1, b2, b3] := by
  obtain ⟨g1, g2⟩ := inB_true h2
  obtain ⟨d, rfl⟩ := Int.eq_ofNat_of_zero_le g1
  simp only [dig4, Bool.and_eq_true] at h3
  obtain ⟨⟨⟨k0, k1⟩, k2⟩, k3⟩ := h3
  have l0 := dv_le k0; have l1 := dv_le k1; have l2 := dv_le k2; have l3 := dv_le k3
  have e : (d : Int) * 10000 + (td b0 b1 : Int) * 100 + (td b2 b3 : Int) = (d : Int) * 10000 + (yr b0 b1 b2 b3 : Int) := by
    unfold td yr
    rw [wz_dv k0, wz_dv k1, wz_dv k2, wz_dv k3]
    omega
  refine ⟨e, ?_⟩
  have hit := resD_itoa (l := a) (by rw [h1])
  rw [h1] at hit
  rw [e, timeText, if_pos h4]
  have hy : yr b0 b1 b2 b3 ≤ 9999 := by unfold yr; omega
  have e1 : ((d : Int) * 10000 + (yr b0 b1 b2 b3 : Int)).toNat = d * 10000 + yr b0 b1 b2 b3 := by omega
  rw [e1, show (d * 10000 + yr b0 b1 b2 b3) / 10000 = d by omega, show (d * 10000 + yr b0 b1 b2 b3) % 10000 = yr b0 b1 b2 b3 by omega, pd_4]
  have q0 : dig (yr b0 b1 b2 b3 / 10 / 10 / 10) = b0 := dig_dv k0 (by unfold yr; omega)
  have q1 : dig (yr b0 b1 b2 b3 / 10 / 10) = b1 := dig_dv k1 (by unfold yr; omega)
  have q2 : dig (yr b0 b1 b2 b3 / 10) = b2 := dig_dv k2 (by unfold yr; omega)
  have q3 : dig (yr b0 b1 b2 b3) = b3 := dig_dv k3 (by unfold yr; omega)
  rw [q0, q1, q2, q3, ← itoa_nat, hit]
  simp
theorem time_no {a : List UInt8} {b0 b1 b2 b3 : UInt8} {x : Int} (h1 : resD a = (x, true)) (h2 : inB x 0 1000 = true) (h : (dig4 b0 b1 b2 b3 && inB (x * 10000 + (yr b0 b1 b2 b3 : Int)) 0 10000000) = false) :
    ¬ timeText (x * 10000 + (td b0 b1 : Int) * 100 + (td b2 b3 : Int)) = a ++ 46 :: [b0, b1, b2, b3] := by
  intro e
  obtain ⟨t, ht⟩ : ∃ t, t = x * 10000 + (td b0 b1 : Int) * 100 + (td b2 b3 : Int) := ⟨_, rfl⟩
  rw [← ht, timeText] at e
  cases hv : inB t 0 10000000
  · rw [hv] at e
    simp at e
  · rw [if_pos hv, pd_4] at e
    have e2 := (List.append_inj' (s₁ := Lib.decDigits (t.toNat / 10000) ++ [46]) (s₂ := a ++ [46]) (t₂ := [b0, b1, b2, b3]) (e.trans (by simp)) (by simp)).2
    simp only [List.cons.injEq, and_true] at e2
    obtain ⟨r0, r1, r2, r3⟩ := e2
    have k0 : isDig b0 = true := r0 ▸ isDig_dig _
    have k1 : isDig b1 = true := r1 ▸ isDig_dig _
    have k2 : isDig b2 = true := r2 ▸ isDig_dig _
    have k3 : isDig b3 = true := r3 ▸ isDig_dig _
    have et : t = x * 10000 + (yr b0 b1 b2 b3 : Int) := by
      rw [ht]
      unfold td yr
      rw [wz_dv k0, wz_dv k1, wz_dv k2, wz_dv k3]
      omega
    rw [← et, hv, dig4, k0, k1, k2, k3] at h
    simp at h
set_option maxHeartbeats 1000000 in
theorem spec_ReadTime_any (l : List UInt8) (hl : l.length ≤ 1048577) (w : World) : Calls Tryd.prog 42 #[.string ⟨l.toArray⟩] w fun e w' => e = .returned (.tuple #[.int .i64 (readT l).1, .bool (readT l).2]) ∧ Below w.heap.size w w' := by
  have HB0 := hide (Below.refl w.heap.size w)
  have HL := hide hl
  by_cases h2 : (spl 46 l).length = 2
  case neg =>
    have HR := hide (readT_many h2)
    have HN := hide h2
    clear h2
    go_enter Tryd.func42, Tryd.ntmps42
    go_wp2_with fail
    refine (l01Split_not2 l 46 46 (by decide) hl HN.out _).mono ?_
    rintro e w1 ⟨A', m, c', rfl, hm, b⟩
    have HB1 := hide (HB0.out.trans (b.mono HB0.out.size))
    clear b
    go_wp2
    go_ret2
    exact ⟨ret_rd HR.out, HB1.out⟩
  have h0 : (46 : UInt8) ∈ l := by
    by_cases h0 : (46 : UInt8) ∈ l
    · exact h0
    · rw [spl_none h0] at h2
      simp at h2
  obtain ⟨a, b, hab, ha⟩ := part_at h0
  have hb : (46 : UInt8) ∉ b := by
    intro hb
    obtain ⟨x, y, z, r, e⟩ := spl_many ha hb
    rw [hab, e] at h2
    simp at h2
  have HS := hide (show spl 46 l = [a, b] from by rw [hab]; exact spl_two ha hb)
  have HLA := hide (show a.length ≤ 1048577 from by rw [hab] at hl; simp at hl; omega)
  have hlb : b.length ≤ 1048577 := by rw [hab] at hl; simp at hl; omega
  have hcut := cut_some (b := b) ha
  rw [← hab] at hcut
  clear h2 h0 hb hl
  by_cases h4 : b.length = 4
  case neg =>
    have HR := hide (readT_len hcut h4)
    have hn : ((b.length : Int) != 4) = true := by
      have h : ¬ (b.length : Int) = 4 := by omega
      simpa using h
    clear hcut h4 hab ha
    go_enter Tryd.func42, Tryd.ntmps42
    go_wp2_with fail
    refine (l01Split_two _ _ _ 46 46 (by decide) HL.out HS.out _).mono ?_
    rintro e w1 ⟨g, c', rfl, hg, c0, c1, b⟩
    have HB1 := hide (HB0.out.trans (b.mono HB0.out.size))
    clear b
    go_wp2
    go_ret2
    exact ⟨ret_rd HR.out, HB1.out⟩
  match b, h4 with
  | [b0, b1, b2, b3], _ =>
    have hr : readT l = rdT a b0 b1 b2 b3 := by rw [hab]; exact readT_four ha
    clear hcut hab ha hlb
    obtain ⟨x, y, hn⟩ : ∃ x y, resD a = (x, y) := ⟨_, _, rfl⟩
    have HN := hide hn
    cases y
    case false =>
      have HR := hide (hr.trans (rdT_y hn))
      obtain ⟨z, g', hd⟩ : ∃ z g', digT [b0, b1, b2, b3] = (z, g') := ⟨_, _, rfl⟩
      have HD := hide hd
      clear hr hn hd
      go_enter Tryd.func42, Tryd.ntmps42
      go_wp2_with fail
      refine (l01Split_two _ _ _ 46 46 (by decide) HL.out HS.out _).mono ?_
      rintro e w1 ⟨g, c', rfl, hg, c0, c1, b⟩
      have HB1 := hide (HB0.out.trans (b.mono HB0.out.size))
      clear b
      go_wp2_with fail
      refine (l01Number_bit HN.out HLA.out _).mono ?_
      rintro e w2 ⟨rfl, b⟩
      have c2 : w2.cell? ⟨g, 1, none⟩ = _ := (b.cell (p := ⟨g, 1, none⟩) hg).trans c1
      have HB2 := hide (HB1.out.trans (b.mono HB1.out.size))
      clear b c0 c1
      go_wp2_with fail
      refine (l03Digits_val HD.out (by simp) _).mono ?_
      rintro e w' ⟨rfl, rfl⟩
      go_wp2
      go_ret2
      exact ⟨ret_rd HR.out, HB2.out⟩
    cases hA : dig4 b0 b1 b2 b3
    case false =>
      have HR := hide (hr.trans (rdT_d hA))
      have HD := hide (digT4_no hA)
      clear hr hn hA
      go_enter Tryd.func42, Tryd.ntmps42
      go_wp2_with fail
      refine (l01Split_two _ _ _ 46 46 (by decide) HL.out HS.out _).mono ?_
      rintro e w1 ⟨g, c', rfl, hg, c0, c1, b⟩
      have HB1 := hide (HB0.out.trans (b.mono HB0.out.size))
      clear b
      go_wp2_with fail
      refine (l01Number_bit HN.out HLA.out _).mono ?_
      rintro e w2 ⟨rfl, b⟩
      have c2 : w2.cell? ⟨g, 1, none⟩ = _ := (b.cell (p := ⟨g, 1, none⟩) hg).trans c1
      have HB2 := hide (HB1.out.trans (b.mono HB1.out.size))
      clear b c0 c1
      go_wp2_with fail
      refine (l03Digits_val HD.out (by simp) _).mono ?_
      rintro e w' ⟨rfl, rfl⟩
      go_wp2
      go_ret2
      exact ⟨ret_rd HR.out, HB2.out⟩
    have HD := hide (digT4_yes hA)
    have hy : yr b0 b1 b2 b3 ≤ 9999 := by
      simp only [dig4, Bool.and_eq_true] at hA
      obtain ⟨⟨⟨k0, k1⟩, k2⟩, k3⟩ := hA
      have l0 := dv_le k0; have l1 := dv_le k1; have l2 := dv_le k2; have l3 := dv_le k3
      unfold yr
      omega
    cases hI : inB x 0 1000
    case false =>
      have HR := hide (hr.trans (rdT_i hn hI))
      have HI := hide hI
      clear hr hn hA hI
      go_enter Tryd.func42, Tryd.ntmps42
      go_wp2_with fail
      refine (l01Split_two _ _ _ 46 46 (by decide) HL.out HS.out _).mono ?_
      rintro e w1 ⟨g, c', rfl, hg, c0, c1, b⟩
      have HB1 := hide (HB0.out.trans (b.mono HB0.out.size))
      clear b
      go_wp2_with fail
      refine (l01Number_bit HN.out HLA.out _).mono ?_
      rintro e w2 ⟨rfl, b⟩
      have c2 : w2.cell? ⟨g, 1, none⟩ = _ := (b.cell (p := ⟨g, 1, none⟩) hg).trans c1
      have HB2 := hide (HB1.out.trans (b.mono HB1.out.size))
      clear b c0 c1
      go_wp2_with fail
      refine (l03Digits_val HD.out (by simp) _).mono ?_
      rintro e w' ⟨rfl, rfl⟩
      go_wp2_with (go_at_call 77; refine (l00In_bit HI.out _).mono ?_; rintro e w' ⟨rfl, rfl⟩)
      go_ret2
      exact ⟨ret_rd HR.out, HB2.out⟩
    obtain ⟨g1, g2⟩ := inB_true hI
    have hm : IntKind.i64.wrap (x * 10000) = x * 10000 := by rw [IntKind.wrap_i64]; omega
    have hs : IntKind.i64.wrap (x * 10000 + (yr b0 b1 b2 b3 : Int)) = x * 10000 + (yr b0 b1 b2 b3 : Int) := by rw [IntKind.wrap_i64]; omega
    have HI := hide hI
    cases hV : inB (x * 10000 + (yr b0 b1 b2 b3 : Int)) 0 10000000
    case false =>
      have HR := hide (hr.trans (rdT_v hn hV))
      have HV := hide hV
      clear hr hn hA hI hV
      go_enter Tryd.func42, Tryd.ntmps42
      go_wp2_with fail
      refine (l01Split_two _ _ _ 46 46 (by decide) HL.out HS.out _).mono ?_
      rintro e w1 ⟨g, c', rfl, hg, c0, c1, b⟩
      have HB1 := hide (HB0.out.trans (b.mono HB0.out.size))
      clear b
      go_wp2_with fail
      refine (l01Number_bit HN.out HLA.out _).mono ?_
      rintro e w2 ⟨rfl, b⟩
      have c2 : w2.cell? ⟨g, 1, none⟩ = _ := (b.cell (p := ⟨g, 1, none⟩) hg).trans c1
      have HB2 := hide (HB1.out.trans (b.mono HB1.out.size))
      clear b c0 c1
      go_wp2_with fail
      refine (l03Digits_val HD.out (by simp) _).mono ?_
      rintro e w' ⟨rfl, rfl⟩
      go_wp2_with (first | (go_at_call 77; refine (l00In_bit HI.out _).mono ?_; rintro e w' ⟨rfl, rfl⟩) | (go_at_call 51; refine (l03Time_bit HV.out _).mono ?_; rintro e w' ⟨rfl, rfl⟩))
      go_ret2
      exact ⟨ret_rd HR.out, HB2.out⟩
    case true =>
      have HR := hide (hr.trans (rdT_ok hn hI hA hV))
      have HV := hide hV
      clear hr hn hA hI hV
      go_enter Tryd.func42, Tryd.ntmps42
      go_wp2_with fail
      refine (l01Split_two _ _ _ 46 46 (by decide) HL.out HS.out _).mono ?_
      rintro e w1 ⟨g, c', rfl, hg, c0, c1, b⟩
      have HB1 := hide (HB0.out.trans (b.mono HB0.out.size))
      clear b
      go_wp2_with fail
      refine (l01Number_bit HN.out HLA.out _).mono ?_
      rintro e w2 ⟨rfl, b⟩
      have c2 : w2.cell? ⟨g, 1, none⟩ = _ := (b.cell (p := ⟨g, 1, none⟩) hg).trans c1
      have HB2 := hide (HB1.out.trans (b.mono HB1.out.size))
      clear b c0 c1
      go_wp2_with fail
      refine (l03Digits_val HD.out (by simp) _).mono ?_
      rintro e w' ⟨rfl, rfl⟩
      go_wp2_with (first | (go_at_call 77; refine (l00In_bit HI.out _).mono ?_; rintro e w' ⟨rfl, rfl⟩) | (go_at_call 51; refine (l03Time_bit HV.out _).mono ?_; rintro e w' ⟨rfl, rfl⟩))
      go_ret2
      exact ⟨ret_rd HR.out, HB2.out⟩
set_option maxHeartbeats 1000000 in
theorem impl_ReadTime_any (l : List UInt8) (hl : l.length ≤ 1048577) (w : World) (TT : Tab w) (S : Sen w) (X : Mx w) : Calls Tryd.prog 43 #[.string ⟨l.toArray⟩] w fun e w' => e = .returned (.tuple #[.int .i64 (readT l).1, .bool (readT l).2]) ∧ Below w.heap.size w w' := by
  have HB0 := hide (Below.refl w.heap.size w)
  have HT := hide TT
  have HZ := hide S
  have HX := hide X
  have HL := hide hl
  clear TT S X
  obtain ⟨a, b, f, hc⟩ : ∃ a b f, Lib.cut l [46] = (a, b, f) := ⟨_, _, _, rfl⟩
  have HC := hide hc
  have hla : a.length ≤ 1048577 ∧ b.length ≤ 1048577 := by
    by_cases h0 : (46 : UInt8) ∈ l
    · obtain ⟨p, q, rfl, hp⟩ := part_at h0
      rw [cut_some hp] at hc
      injection hc with e1 e2
      injection e2 with e2 _
      subst e1 e2
      simp at hl
      omega
    · rw [cut_none h0] at hc
      injection hc with e1 e2
      injection e2 with e2 _
      subst e1 e2
      exact ⟨hl, by simp⟩
  have HLA := hide hla.1
  have hlb := hla.2
  clear hla
  obtain ⟨x, y, hn⟩ : ∃ x y, resD a = (x, y) := ⟨_, _, rfl⟩
  have HN := hide hn
  by_cases h4 : b.length = 4
  case neg =>
    have HR := hide (readT_len hc h4)
    have h4' : ((b.length : Int) != 4) = true := by
      have h : ¬ (b.length : Int) = 4 := by omega
      simpa using h
    clear hc h4 hn
    cases y
    case false =>
      go_enter Tryd.func43, Tryd.ntmps43
      go_wp2_with fail
      refine (cutAt 46 HC.out HL.out _ (HX.out.below HB0.out)).mono ?_
      rintro e w1 ⟨rfl, b⟩
      have HB1 := hide (HB0.out.trans (b.mono HB0.out.size))
      clear b
      go_wp2_with fail
      refine (impl_ReadDecimal_bit HN.out HLA.out _ (HT.out.below HB1.out) (HZ.out.below HB1.out)).mono ?_
      rintro e w2 ⟨rfl, b⟩
      have HB2 := hide (HB1.out.trans (b.mono HB1.out.size))
      clear b
      go_wp2
      go_ret2
      exact ⟨ret_rd HR.out, HB2.out⟩
    cases hI : inB x 0 1000
    all_goals
      have HI := hide hI
      clear hI
      go_enter Tryd.func43, Tryd.ntmps43
      go_wp2_with fail
      refine (cutAt 46 HC.out HL.out _ (HX.out.below HB0.out)).mono ?_
      rintro e w1 ⟨rfl, b⟩
      have HB1 := hide (HB0.out.trans (b.mono HB0.out.size))
      clear b
      go_wp2_with fail
      refine (impl_ReadDecimal_bit HN.out HLA.out _ (HT.out.below HB1.out) (HZ.out.below HB1.out)).mono ?_
      rintro e w2 ⟨rfl, b⟩
      have HB2 := hide (HB1.out.trans (b.mono HB1.out.size))
      clear b
      go_wp2_with (go_at_call 79; refine (in_bit HI.out _).mono ?_; rintro e w' ⟨rfl, rfl⟩)
      go_ret2
      exact ⟨ret_rd HR.out, HB2.out⟩
  have h0 : (46 : UInt8) ∈ l := by
    by_cases h0 : (46 : UInt8) ∈ l
    · exact h0
    · rw [cut_none h0] at hc
      injection hc with e1 e2
      injection e2 with e2 _
      subst e2
      simp at h4
  obtain ⟨p, q, hab, ha⟩ := part_at h0
  have hpq : p = a ∧ q = b := by
    rw [hab, cut_some ha] at hc
    injection hc with e1 e2
    injection e2 with e2 _
    exact ⟨e1, e2⟩
  obtain ⟨rfl, rfl⟩ := hpq
  clear hc h0
  match q, h4 with
  | [b0, b1, b2, b3], _ =>
    have hr : readT l = rdT p b0 b1 b2 b3 := by rw [hab]; exact readT_four ha
    clear ha hlb
    cases y
    case false =>
      have HR := hide (hr.trans (rdT_y hn))
      clear hr hn hab
      go_enter Tryd.func43, Tryd.ntmps43
      go_wp2_with fail
      refine (cutAt 46 HC.out HL.out _ (HX.out.below HB0.out)).mono ?_
      rintro e w1 ⟨rfl, b⟩
      have HB1 := hide (HB0.out.trans (b.mono HB0.out.size))
      clear b
      go_wp2_with fail
      refine (impl_ReadDecimal_bit HN.out HLA.out _ (HT.out.below HB1.out) (HZ.out.below HB1.out)).mono ?_
      rintro e w2 ⟨rfl, b⟩
      have HB2 := hide (HB1.out.trans (b.mono HB1.out.size))
      clear b
      go_wp2
      go_ret2
      exact ⟨ret_rd HR.out, HB2.out⟩
    cases hI : inB x 0 1000
    case false =>
      have HR := hide (hr.trans (rdT_i hn hI))
      have HI := hide hI
      clear hr hn hab hI
      go_enter Tryd.func43, Tryd.ntmps43
      go_wp2_with fail
      refine (cutAt 46 HC.out HL.out _ (HX.out.below HB0.out)).mono ?_
      rintro e w1 ⟨rfl, b⟩
      have HB1 := hide (HB0.out.trans (b.mono HB0.out.size))
      clear b
      go_wp2_with fail
      refine (impl_ReadDecimal_bit HN.out HLA.out _ (HT.out.below HB1.out) (HZ.out.below HB1.out)).mono ?_
      rintro e w2 ⟨rfl, b⟩
      have HB2 := hide (HB1.out.trans (b.mono HB1.out.size))
      clear b
      go_wp2_with (go_at_call 79; refine (in_bit HI.out _).mono ?_; rintro e w' ⟨rfl, rfl⟩)
      go_ret2
      exact ⟨ret_rd HR.out, HB2.out⟩
    obtain ⟨g1, g2⟩ := inB_true hI
    have HI := hide hI
    have t0 := td_le b0 b1
    have t2 := td_le b2 b3
    have hm : IntKind.i64.wrap (x * 10000) = x * 10000 := by rw [IntKind.wrap_i64]; omega
    have hm2 : IntKind.i64.wrap ((td b0 b1 : Int) * 100) = (td b0 b1 : Int) * 100 := by rw [IntKind.wrap_i64]; omega
    have hs : IntKind.i64.wrap (x * 10000 + (td b0 b1 : Int) * 100) = x * 10000 + (td b0 b1 : Int) * 100 := by rw [IntKind.wrap_i64]; omega
    have hs2 : IntKind.i64.wrap (x * 10000 + (td b0 b1 : Int) * 100 + (td b2 b3 : Int)) = (x * 10000 + (td b0 b1 : Int) * 100 + (td b2 b3 : Int)) := by rw [IntKind.wrap_i64]; omega
    have x02 : (⟨#[b0, b1, b2, b3]⟩ : ByteArray).extract 0 2 = ⟨#[b0, b1]⟩ := by apply ByteArray.ext; simp
    have x24 : (⟨#[b0, b1, b2, b3]⟩ : ByteArray).extract 2 4 = ⟨#[b2, b3]⟩ := by apply ByteArray.ext; simp
    have HQ : (dig4 b0 b1 b2 b3 && inB (x * 10000 + (yr b0 b1 b2 b3 : Int)) 0 10000000) = true ∨ (dig4 b0 b1 b2 b3 && inB (x * 10000 + (yr b0 b1 b2 b3 : Int)) 0 10000000) = false := by
      cases (dig4 b0 b1 b2 b3 && inB (x * 10000 + (yr b0 b1 b2 b3 : Int)) 0 10000000) <;> simp
    rcases HQ with hQ | hQ
    · rw [Bool.and_eq_true] at hQ
      obtain ⟨hA, hV⟩ := hQ
      obtain ⟨et, etx⟩ := time_yes hn hI hA hV
      rw [← hab] at etx
      have HR := hide (show readT l = ((x * 10000 + (td b0 b1 : Int) * 100 + (td b2 b3 : Int)), true) from by rw [hr, rdT_ok hn hI hA hV, et])
      clear hr hn hab hA hV et hI
      go_enter Tryd.func43, Tryd.ntmps43
      go_wp2_with fail
      refine (cutAt 46 HC.out HL.out _ (HX.out.below HB0.out)).mono ?_
      rintro e w1 ⟨rfl, b⟩
      have HB1 := hide (HB0.out.trans (b.mono HB0.out.size))
      clear b
      go_wp2_with fail
      refine (impl_ReadDecimal_bit HN.out HLA.out _ (HT.out.below HB1.out) (HZ.out.below HB1.out)).mono ?_
      rintro e w2 ⟨rfl, b⟩
      have HB2 := hide (HB1.out.trans (b.mono HB1.out.size))
      clear b
      have hq1 := hide (fun N => twoDigits_any b0 b1 (w2.drewN N))
      have hq2 := hide (fun N => twoDigits_any b2 b3 (w2.drewN N))
      go_wp2_with (go_at_call 79; refine (in_bit HI.out _).mono ?_; rintro e w' ⟨rfl, rfl⟩)
      go_quiet (first | (go_at_call_of 66 (Value.string ⟨#[b0, b1]⟩); with_reducible first | exact Calls.quiet_of (hq1.out _) | exact qadd_exR (hq1.out _)) | (go_at_call_of 66 (Value.string ⟨#[b2, b3]⟩); with_reducible first | exact Calls.quiet_of (hq2.out _) | exact qadd_exR (hq2.out _)))
      go_wp2_with fail
      refine (impl_TimeText_any _ _ (Tab.below (HT.out.below HB2.out) (below_drewN (Below.refl _ _) _))).mono ?_
      rintro e w3 ⟨rfl, b⟩
      have HB3 := hide (HB2.out.trans (Below.mono (show Below w2.heap.size w2 w3 from Below.trans (below_drewN (Below.refl _ _) _) b) HB2.out.size))
      clear b
      go_wp2
      go_ret2
      exact ⟨ret_rd HR.out, HB3.out⟩
    · have hno := time_no hn hI hQ
      rw [← hab] at hno
      have hno2 : (timeText (x * 10000 + (td b0 b1 : Int) * 100 + (td b2 b3 : Int)) == l) = false := beq_eq_false_iff_ne.2 hno
      have HR := hide (show readT l = (0, false) from by
        rw [hr]
        rw [Bool.and_eq_false_iff] at hQ
        rcases hQ with hA | hV
        · exact rdT_d hA
        · exact rdT_v hn hV)
      clear hr hn hab hQ hI
      go_enter Tryd.func43, Tryd.ntmps43
      go_wp2_with fail
      refine (cutAt 46 HC.out HL.out _ (HX.out.below HB0.out)).mono ?_
      rintro e w1 ⟨rfl, b⟩
      have HB1 := hide (HB0.out.trans (b.mono HB0.out.size))
      clear b
      go_wp2_with fail
      refine (impl_ReadDecimal_bit HN.out HLA.out _ (HT.out.below HB1.out) (HZ.out.below HB1.out)).mono ?_
      rintro e w2 ⟨rfl, b⟩
      have HB2 := hide (HB1.out.trans (b.mono HB1.out.size))
      clear b
      have hq1 := hide (fun N => twoDigits_any b0 b1 (w2.drewN N))
      have hq2 := hide (fun N => twoDigits_any b2 b3 (w2.drewN N))
      go_wp2_with (go_at_call 79; refine (in_bit HI.out _).mono ?_; rintro e w' ⟨rfl, rfl⟩)
      go_quiet (first | (go_at_call_of 66 (Value.string ⟨#[b0, b1]⟩); with_reducible first | exact Calls.quiet_of (hq1.out _) | exact qadd_exR (hq1.out _)) | (go_at_call_of 66 (Value.string ⟨#[b2, b3]⟩); with_reducible first | exact Calls.quiet_of (hq2.out _) | exact qadd_exR (hq2.out _)))
      go_wp2_with fail
      refine (impl_TimeText_any _ _ (Tab.below (HT.out.below HB2.out) (below_drewN (Below.refl _ _) _))).mono ?_
      rintro e w3 ⟨rfl, b⟩
      have HB3 := hide (HB2.out.trans (Below.mono (show Below w2.heap.size w2 w3 from Below.trans (below_drewN (Below.refl _ _) _) b) HB2.out.size))
      clear b
      go_wp2
      go_ret2
      exact ⟨ret_rd HR.out, HB3.out⟩
theorem rtb_end : True := trivial
end Go.Proofs.YtdplmbndafmlgaaDoor
