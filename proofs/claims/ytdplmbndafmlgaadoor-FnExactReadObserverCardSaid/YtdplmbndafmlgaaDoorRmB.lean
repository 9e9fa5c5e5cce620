/-
  Contracts: magnitudes that the program reads.
-/
import Derived.Test.YtdplmbndafmlgaaDoorRmA
namespace Go.Proofs.YtdplmbndafmlgaaDoor
open Go.RowKit Pl
set_option linter.unusedVariables false
set_option linter.unusedSimpArgs false
theorem cutPre_any (l : List UInt8) (w : World) : Calls Tryd.prog 81 #[.string ⟨l.toArray⟩, .string ⟨#[45]⟩] w fun e w' => e = .returned (.tuple #[.string ⟨(unsign l).toArray⟩, .bool (negB l)]) ∧ w = w' := by
  refine (Tryd.strings_CutPrefix ⟨l.toArray⟩ ⟨#[45]⟩ w).mono ?_
  rintro e w' ⟨rfl, rfl⟩
  rw [show Lib.trimPrefix (⟨l.toArray⟩ : ByteArray).data.toList (⟨#[45]⟩ : ByteArray).data.toList = unsign l from trim_unsign l, show Lib.hasPrefix (⟨l.toArray⟩ : ByteArray).data.toList (⟨#[45]⟩ : ByteArray).data.toList = negB l from has_neg l]
  exact ⟨rfl, rfl⟩
theorem unsign_le (l : List UInt8) : (unsign l).length ≤ l.length := by
  cases l with
  | nil => exact Nat.le_refl _
  | cons c t =>
    show (if c = 45 then t else c :: t).length ≤ (c :: t).length
    split <;> simp
theorem cut_le {l a b : List UInt8} {f : Bool} {c : UInt8} (h : Lib.cut l [c] = (a, b, f)) : a.length ≤ l.length ∧ b.length ≤ l.length := by
  by_cases h0 : c ∈ l
  · obtain ⟨p, q, rfl, hp⟩ := part_at h0
    rw [cut_some hp] at h
    injection h with e1 e2
    injection e2 with e2 _
    subst e1 e2
    simp
    omega
  · rw [cut_none h0] at h
    injection h with e1 e2
    injection e2 with e2 _
    subst e1 e2
    simp
theorem readM_cut {l a : List UInt8} {b0 b1 b2 : UInt8} {f : Bool} (h : Lib.cut (unsign l) [46] = (a, [b0, b1, b2], f)) : readM l = rdG (negB l) a b0 b1 b2 l := by rw [readM, h]
set_option maxHeartbeats 1000000 in
set_option maxRecDepth 100000 in
theorem impl_ReadMag_any (l : List UInt8) (hl : l.length ≤ 1048577) (w : World) (TT : Tab w) (S : Sen w) (X : Mx w) : Calls Tryd.prog 45 #[.string ⟨l.toArray⟩] w fun e w' => e = .returned (.tuple #[.int .i64 (readM l).1, .bool (readM l).2]) ∧ Below w.heap.size w w' := by
  have HB0 := hide (Below.refl w.heap.size w)
  have HT := hide TT
  have HZ := hide S
  have HX := hide X
  clear TT S X
  have HLU := hide (Nat.le_trans (unsign_le l) hl)
  obtain ⟨a, b, f, hc⟩ : ∃ a b f, Lib.cut (unsign l) [46] = (a, b, f) := ⟨_, _, _, rfl⟩
  have HC := hide hc
  have hla := cut_le hc
  have HLA := hide (Nat.le_trans hla.1 HLU.out)
  have hlb := Nat.le_trans hla.2 HLU.out
  clear hla
  obtain ⟨x, y, hn⟩ : ∃ x y, resD a = (x, y) := ⟨_, _, rfl⟩
  have HN := hide hn
  by_cases h4 : b.length = 3
  case neg =>
    have HR := hide (readM_len hc h4)
    have h4' : ((b.length : Int) != 3) = true := by
      have h : ¬ (b.length : Int) = 3 := by omega
      simpa using h
    clear hc h4 hn
    cases y
    case false =>
      go_enter Tryd.func45, Tryd.ntmps45
      go_wp2_with fail
      refine (cutPre_any l _).mono ?_
      rintro e w' ⟨rfl, rfl⟩
      go_wp2_with fail
      refine (cutAt 46 HC.out HLU.out _ (HX.out.below HB0.out)).mono ?_
      rintro e w1 ⟨rfl, b⟩
      have HB1 := hide (HB0.out.trans (b.mono HB0.out.size))
      clear b
      go_wp2_with fail
      refine (impl_ReadDecimal_bit HN.out HLA.out _ (HT.out.below HB1.out) (HZ.out.below HB1.out)).mono ?_
      rintro e w2 ⟨rfl, b⟩
      have HB2 := hide (HB1.out.trans (b.mono HB1.out.size))
      clear b
      go_wp2
      go_ret2
      exact ⟨ret_rd HR.out, HB2.out⟩
    cases hI : inB x 0 20
    all_goals
      have HI := hide hI
      clear hI
      go_enter Tryd.func45, Tryd.ntmps45
      go_wp2_with fail
      refine (cutPre_any l _).mono ?_
      rintro e w' ⟨rfl, rfl⟩
      go_wp2_with fail
      refine (cutAt 46 HC.out HLU.out _ (HX.out.below HB0.out)).mono ?_
      rintro e w1 ⟨rfl, b⟩
      have HB1 := hide (HB0.out.trans (b.mono HB0.out.size))
      clear b
      go_wp2_with fail
      refine (impl_ReadDecimal_bit HN.out HLA.out _ (HT.out.below HB1.out) (HZ.out.below HB1.out)).mono ?_
      rintro e w2 ⟨rfl, b⟩
      have HB2 := hide (HB1.out.trans (b.mono HB1.out.size))
      clear b
      go_wp2_with (go_at_call 79; refine (in_bit HI.out _).mono ?_; rintro e w' ⟨rfl, rfl⟩)
      go_ret2
      exact ⟨ret_rd HR.out, HB2.out⟩
  match b, h4 with
  | [b0, b1, b2], _ =>
    have hr := readM_cut hc
    clear hc hlb
    obtain ⟨nb, hnb⟩ : ∃ nb, negB l = nb := ⟨_, rfl⟩
    have HNB := hide hnb
    rw [hnb] at hr
    clear hnb
    cases y
    case false =>
      have HR := hide (hr.trans (rdG_y hn))
      clear hr hn
      go_enter Tryd.func45, Tryd.ntmps45
      go_wp2_with fail
      refine (cutPre_any l _).mono ?_
      rintro e w' ⟨rfl, rfl⟩
      go_wp2_with fail
      refine (cutAt 46 HC.out HLU.out _ (HX.out.below HB0.out)).mono ?_
      rintro e w1 ⟨rfl, b⟩
      have HB1 := hide (HB0.out.trans (b.mono HB0.out.size))
      clear b
      go_wp2_with fail
      refine (impl_ReadDecimal_bit HN.out HLA.out _ (HT.out.below HB1.out) (HZ.out.below HB1.out)).mono ?_
      rintro e w2 ⟨rfl, b⟩
      have HB2 := hide (HB1.out.trans (b.mono HB1.out.size))
      clear b
      go_wp2
      go_ret2
      exact ⟨ret_rd HR.out, HB2.out⟩
    cases hI : inB x 0 20
    case false =>
      have HR := hide (hr.trans (rdG_i hn hI))
      have HI := hide hI
      clear hr hn hI
      go_enter Tryd.func45, Tryd.ntmps45
      go_wp2_with fail
      refine (cutPre_any l _).mono ?_
      rintro e w' ⟨rfl, rfl⟩
      go_wp2_with fail
      refine (cutAt 46 HC.out HLU.out _ (HX.out.below HB0.out)).mono ?_
      rintro e w1 ⟨rfl, b⟩
      have HB1 := hide (HB0.out.trans (b.mono HB0.out.size))
      clear b
      go_wp2_with fail
      refine (impl_ReadDecimal_bit HN.out HLA.out _ (HT.out.below HB1.out) (HZ.out.below HB1.out)).mono ?_
      rintro e w2 ⟨rfl, b⟩
      have HB2 := hide (HB1.out.trans (b.mono HB1.out.size))
      clear b
      go_wp2_with (go_at_call 79; refine (in_bit HI.out _).mono ?_; rintro e w' ⟨rfl, rfl⟩)
      go_ret2
      exact ⟨ret_rd HR.out, HB2.out⟩
    obtain ⟨g1, g2⟩ := inB_true hI
    have HI := hide hI
    have e0 : (⟨#[b0, b1, b2]⟩ : ByteArray)[0]'(by simp [ByteArray.size]) = b0 := rfl
    have e1 : (⟨#[b0, b1, b2]⟩ : ByteArray)[1]'(by simp [ByteArray.size]) = b1 := rfl
    have e2 : (⟨#[b0, b1, b2]⟩ : ByteArray)[2]'(by simp [ByteArray.size]) = b2 := rfl
    have u0 := wz_wrap b0
    have u1 := wz_wrap b1
    have u2 := wz_wrap b2
    have l0 := wz_le b0
    have l1 := wz_le b1
    have l2 := wz_le b2
    have v0 : IntKind.i64.wrap (wz b0 : Int) = (wz b0 : Int) := by rw [IntKind.wrap_i64]; omega
    have v1 : IntKind.i64.wrap (wz b1 : Int) = (wz b1 : Int) := by rw [IntKind.wrap_i64]; omega
    have v2 : IntKind.i64.wrap (wz b2 : Int) = (wz b2 : Int) := by rw [IntKind.wrap_i64]; omega
    have m0 : IntKind.i64.wrap (x * 1000) = x * 1000 := by rw [IntKind.wrap_i64]; omega
    have p0 : IntKind.i64.wrap (100 * (wz b0 : Int)) = 100 * (wz b0 : Int) := by rw [IntKind.wrap_i64]; omega
    have p1 : IntKind.i64.wrap (10 * (wz b1 : Int)) = 10 * (wz b1 : Int) := by rw [IntKind.wrap_i64]; omega
    have s0 : IntKind.i64.wrap (x * 1000 + 100 * (wz b0 : Int)) = (x * 1000 + 100 * (wz b0 : Int)) := by rw [IntKind.wrap_i64]; omega
    have s1 : IntKind.i64.wrap (x * 1000 + 100 * (wz b0 : Int) + 10 * (wz b1 : Int)) = (x * 1000 + 100 * (wz b0 : Int) + 10 * (wz b1 : Int)) := by rw [IntKind.wrap_i64]; omega
    have s2 : IntKind.i64.wrap (x * 1000 + 100 * (wz b0 : Int) + 10 * (wz b1 : Int) + (wz b2 : Int)) = (x * 1000 + 100 * (wz b0 : Int) + 10 * (wz b1 : Int) + (wz b2 : Int)) := by rw [IntKind.wrap_i64]; omega
    have mn : IntKind.i64.wrap (-(x * 1000 + 100 * (wz b0 : Int) + 10 * (wz b1 : Int) + (wz b2 : Int))) = -(x * 1000 + 100 * (wz b0 : Int) + 10 * (wz b1 : Int) + (wz b2 : Int)) := by rw [IntKind.wrap_i64]; omega
    have HRR := hide hr
    clear hr hn hI
    go_enter Tryd.func45, Tryd.ntmps45
    go_wp2_with fail
    refine (cutPre_any l _).mono ?_
    rintro e w' ⟨rfl, rfl⟩
    rw [HNB.out]
    go_wp2_with fail
    refine (cutAt 46 HC.out HLU.out _ (HX.out.below HB0.out)).mono ?_
    rintro e w1 ⟨rfl, b⟩
    have HB1 := hide (HB0.out.trans (b.mono HB0.out.size))
    clear b
    go_wp2_with fail
    refine (impl_ReadDecimal_bit HN.out HLA.out _ (HT.out.below HB1.out) (HZ.out.below HB1.out)).mono ?_
    rintro e w2 ⟨rfl, b⟩
    have HB2 := hide (HB1.out.trans (b.mono HB1.out.size))
    clear b
    go_wp2_with (go_at_call 79; refine (in_bit HI.out _).mono ?_; rintro e w' ⟨rfl, rfl⟩)
    have HBA := hide (HB2.out.trans (((Below.refl w2.heap.size w2).alloc (Nat.le_refl _) (.cells #[.int .i64 100, .int .i64 10, .int .i64 1] 2)).mono HB2.out.size))
    go_loop [11, 46] (fun n i => (i = .int .i64 0 ∧ n = .int .i64 (x * 1000)) ∨ (i = .int .i64 1 ∧ n = .int .i64 (x * 1000 + 100 * (wz b0 : Int))) ∨ (i = .int .i64 2 ∧ n = .int .i64 (x * 1000 + 100 * (wz b0 : Int) + 10 * (wz b1 : Int))) ∨ (i = .int .i64 3 ∧ n = .int .i64 (x * 1000 + 100 * (wz b0 : Int) + 10 * (wz b1 : Int) + (wz b2 : Int)))) (fun _ i => 3 - (intOf i).toNat)
    case atStart => exact .inl ⟨rfl, rfl⟩
    case round =>
      rcases hrel with ⟨rfl, rfl⟩ | ⟨rfl, rfl⟩ | ⟨rfl, rfl⟩ | ⟨rfl, rfl⟩
      · go_wp2
        go_round
        case rel => exact .inr (.inl ⟨rfl, rfl⟩)
        case measure => simp [intOf]
      · go_wp2
        go_round
        case rel => exact .inr (.inr (.inl ⟨rfl, rfl⟩))
        case measure => simp [intOf]
      · go_wp2
        go_round
        case rel => exact .inr (.inr (.inr ⟨rfl, rfl⟩))
        case measure => simp [intOf]
      · cases nb
        · have HES := hide (show sg false (magV x b0 b1 b2) = (x * 1000 + 100 * (wz b0 : Int) + 10 * (wz b1 : Int) + (wz b2 : Int)) from by unfold magV; simp only [sg]; simp; omega)
          by_cases hq : magText2 (x * 1000 + 100 * (wz b0 : Int) + 10 * (wz b1 : Int) + (wz b2 : Int)) = l
          · have HR := hide (show readM l = ((x * 1000 + 100 * (wz b0 : Int) + 10 * (wz b1 : Int) + (wz b2 : Int)), true) from by
              have k := HRR.out.trans (rdG_ok HN.out HI.out (by rw [HES.out]; exact hq))
              rw [HES.out] at k
              exact k)
            go_wp2_with fail
            refine (impl_MagText_any _ _ (HT.out.below HBA.out)).mono ?_
            rintro e w3 ⟨rfl, b⟩
            have HB3 := hide (HBA.out.trans (b.mono HBA.out.size))
            clear b
            go_wp2
            go_ret2
            exact ⟨ret_rd HR.out, HB3.out⟩
          · have HR := hide (show readM l = (0, false) from HRR.out.trans (rdG_no HN.out (by rw [HES.out]; exact hq)))
            have hq2 : (magText2 (x * 1000 + 100 * (wz b0 : Int) + 10 * (wz b1 : Int) + (wz b2 : Int)) == l) = false := beq_eq_false_iff_ne.2 hq
            go_wp2_with fail
            refine (impl_MagText_any _ _ (HT.out.below HBA.out)).mono ?_
            rintro e w3 ⟨rfl, b⟩
            have HB3 := hide (HBA.out.trans (b.mono HBA.out.size))
            clear b
            go_wp2
            go_ret2
            exact ⟨ret_rd HR.out, HB3.out⟩
        · have HES := hide (show sg true (magV x b0 b1 b2) = (-(x * 1000 + 100 * (wz b0 : Int) + 10 * (wz b1 : Int) + (wz b2 : Int))) from by unfold magV; simp only [sg]; simp; omega)
          by_cases hq : magText2 (-(x * 1000 + 100 * (wz b0 : Int) + 10 * (wz b1 : Int) + (wz b2 : Int))) = l
          · have HR := hide (show readM l = ((-(x * 1000 + 100 * (wz b0 : Int) + 10 * (wz b1 : Int) + (wz b2 : Int))), true) from by
              have k := HRR.out.trans (rdG_ok HN.out HI.out (by rw [HES.out]; exact hq))
              rw [HES.out] at k
              exact k)
            go_wp2_with fail
            refine (impl_MagText_any _ _ (HT.out.below HBA.out)).mono ?_
            rintro e w3 ⟨rfl, b⟩
            have HB3 := hide (HBA.out.trans (b.mono HBA.out.size))
            clear b
            go_wp2
            go_ret2
            exact ⟨ret_rd HR.out, HB3.out⟩
          · have HR := hide (show readM l = (0, false) from HRR.out.trans (rdG_no HN.out (by rw [HES.out]; exact hq)))
            have hq2 : (magText2 (-(x * 1000 + 100 * (wz b0 : Int) + 10 * (wz b1 : Int) + (wz b2 : Int))) == l) = false := beq_eq_false_iff_ne.2 hq
            go_wp2_with fail
            refine (impl_MagText_any _ _ (HT.out.below HBA.out)).mono ?_
            rintro e w3 ⟨rfl, b⟩
            have HB3 := hide (HBA.out.trans (b.mono HBA.out.size))
            clear b
            go_wp2
            go_ret2
            exact ⟨ret_rd HR.out, HB3.out⟩
theorem rmb_end : True := trivial
end Go.Proofs.YtdplmbndafmlgaaDoor
