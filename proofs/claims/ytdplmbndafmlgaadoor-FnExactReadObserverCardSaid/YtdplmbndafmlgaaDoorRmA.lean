/-
  Contracts: magnitudes that are read.
-/
import Derived.Test.YtdplmbndafmlgaaDoorRtA
import Derived.Test.YtdplmbndafmlgaaDoorTxtC
namespace Go.Proofs.YtdplmbndafmlgaaDoor
open Go.RowKit Pl
set_option linter.unusedVariables false
set_option linter.unusedSimpArgs false
def negB : List UInt8 → Bool
  | [] => false
  | c :: _ => c == 45
def sg (n : Bool) (m : Int) : Int := if n = true then -m else m
def magV (x : Int) (b0 b1 b2 : UInt8) : Int := (10 * (10 * (10 * x + (wz b0 : Int)) + (wz b1 : Int)) + (wz b2 : Int))
def rdG (n : Bool) (a : List UInt8) (b0 b1 b2 : UInt8) (l : List UInt8) : Int × Bool :=
  if ((resD a).2 && inB (resD a).1 0 20) = true ∧ magText2 (sg n (magV (resD a).1 b0 b1 b2)) = l then (sg n (magV (resD a).1 b0 b1 b2), true) else (0, false)
def readM (l : List UInt8) : Int × Bool := match Lib.cut (unsign l) [46] with | (a, b, _) => match b with | [b0, b1, b2] => rdG (negB l) a b0 b1 b2 l | _ => (0, false)
theorem has_neg (l : List UInt8) : Lib.hasPrefix l [45] = negB l := by
  cases l with
  | nil => rfl
  | cons c t =>
    by_cases h : c = 45
    · subst h; simp [Lib.hasPrefix, negB]
    · have h1 : (45 == c) = false := beq_eq_false_iff_ne.2 (Ne.symm h)
      have h2 : (c == 45) = false := beq_eq_false_iff_ne.2 h
      show [45].isPrefixOf (c :: t) = (c == 45)
      rw [h2]
      simp [List.isPrefixOf, h1]
theorem unsign_app (A b : List UInt8) : unsign (A ++ 46 :: b) = unsign A ++ 46 :: b := by
  cases A with
  | nil => rfl
  | cons c t =>
    by_cases h : c = 45
    · simp [unsign, h]
    · simp [unsign, h]
theorem neg_app (A b : List UInt8) : negB (A ++ 46 :: b) = negB A := by
  cases A with
  | nil => rfl
  | cons c t => rfl
theorem mem_unsign {A : List UInt8} {c : UInt8} (h : c ∉ A) : c ∉ unsign A := by
  cases A with
  | nil => exact h
  | cons x t =>
    show c ∉ (if x = 45 then t else x :: t)
    by_cases e : x = 45
    · rw [if_pos e]
      exact fun k => h (List.mem_cons_of_mem _ k)
    · rw [if_neg e]
      exact h
theorem readM_len {l a b : List UInt8} {f : Bool} (h : Lib.cut (unsign l) [46] = (a, b, f)) (hb : ¬ b.length = 3) : readM l = (0, false) := by
  rw [readM, h]
  dsimp only
  split
  · simp at hb
  · rfl
theorem readM_three {A : List UInt8} {b0 b1 b2 : UInt8} (h : (46 : UInt8) ∉ A) : readM (A ++ 46 :: [b0, b1, b2]) = rdG (negB A) (unsign A) b0 b1 b2 (A ++ 46 :: [b0, b1, b2]) := by rw [readM, unsign_app, cut_some (mem_unsign h), neg_app]
theorem rdG_y {n : Bool} {a l : List UInt8} {b0 b1 b2 : UInt8} {x : Int} (h1 : resD a = (x, false)) : rdG n a b0 b1 b2 l = (0, false) := by unfold rdG; rw [h1, if_neg (fun h => by cases h.1)]
theorem rdG_i {n : Bool} {a l : List UInt8} {b0 b1 b2 : UInt8} {x : Int} {y : Bool} (h1 : resD a = (x, y)) (h2 : inB x 0 20 = false) : rdG n a b0 b1 b2 l = (0, false) := by unfold rdG; rw [h1, if_neg (fun h => by have := h.1; dsimp only at this; rw [h2, Bool.and_false] at this; cases this)]
theorem rdG_no {n : Bool} {a l : List UInt8} {b0 b1 b2 : UInt8} {x : Int} {y : Bool} (h1 : resD a = (x, y)) (h3 : ¬ magText2 (sg n (magV x b0 b1 b2)) = l) : rdG n a b0 b1 b2 l = (0, false) := by unfold rdG; rw [h1, if_neg (fun h => h3 h.2)]
theorem rdG_ok {n : Bool} {a l : List UInt8} {b0 b1 b2 : UInt8} {x : Int} (h1 : resD a = (x, true)) (h2 : inB x 0 20 = true) (h3 : magText2 (sg n (magV x b0 b1 b2)) = l) : rdG n a b0 b1 b2 l = (sg n (magV x b0 b1 b2), true) := by
  unfold rdG
  rw [h1, if_pos ⟨by dsimp only; rw [h2]; rfl, h3⟩]
theorem dig_inB (u : Nat) : inB ((dig u).toNat : Int) 48 57 = true := by have h := dig_toNat u; exact inB_mk (by omega) (by omega)
theorem mag_dig {m : Int} {A : List UInt8} {b0 b1 b2 : UInt8} (e : magText2 m = A ++ 46 :: [b0, b1, b2]) : (inB (b0.toNat : Int) 48 57 && inB (b1.toNat : Int) 48 57 && inB (b2.toNat : Int) 48 57) = true := by
  unfold magText2 at e
  split at e
  · rw [magT, pd_3] at e
    have e2 := (List.append_inj' (s₁ := (if m < 0 then [45] else []) ++ Lib.decDigits (m.natAbs / 1000) ++ [46]) (s₂ := A ++ [46]) (t₂ := [b0, b1, b2]) (e.trans (by simp)) (by simp)).2
    simp only [List.cons.injEq, and_true] at e2
    obtain ⟨r0, r1, r2⟩ := e2
    rw [← r0, ← r1, ← r2, dig_inB, dig_inB, dig_inB]
    rfl
  · simp at e
theorem mag_empty {m : Int} {A b : List UInt8} (h : inB m (-2000) 20000 = false) : ¬ magText2 m = A ++ 46 :: b := by
  unfold magText2
  rw [h]
  simp
theorem readM_many {l : List UInt8} (h : ¬ (spl 46 l).length = 2) : readM l = (0, false) := by
  by_cases h0 : (46 : UInt8) ∈ l
  · obtain ⟨a, b, rfl, ha⟩ := part_at h0
    by_cases hb : (46 : UInt8) ∈ b
    · by_cases h4 : b.length = 3
      · match b, h4 with
        | [b0, b1, b2], _ =>
          rw [readM_three ha]
          refine rdG_no (x := (resD (unsign a)).1) (y := (resD (unsign a)).2) rfl ?_
          intro e
          have k := mag_dig e
          simp only [Bool.and_eq_true] at k
          obtain ⟨⟨k0, k1⟩, k2⟩ := k
          have d46 : inB (((46 : UInt8).toNat : Nat) : Int) 48 57 = false := inB_no (by decide)
          simp only [List.mem_cons, List.not_mem_nil, or_false] at hb
          rcases hb with rfl | rfl | rfl
          · rw [d46] at k0; cases k0
          · rw [d46] at k1; cases k1
          · rw [d46] at k2; cases k2
      · exact readM_len (by rw [unsign_app]; exact cut_some (mem_unsign ha)) h4
    · rw [spl_two ha hb] at h
      simp at h
  · exact readM_len (cut_none (mem_unsign h0)) (by simp)
theorem l01Digit_bit {n : Int} {b : Bool} (h : inB n 48 57 = b) (w : World) : Calls Tryd.prog 80 #[.int .u8 n] w fun e w' => e = .returned (.bool b) ∧ w = w' := by
  have k := l01Digit_any n w
  rw [h] at k
  exact k
theorem l02Mag_bit {n : Int} {b : Bool} (h : inB n (-2000) 20000 = b) (w : World) : Calls Tryd.prog 55 #[.int .i64 n] w fun e w' => e = .returned (.bool b) ∧ w = w' := by
  have k := spec_l02Mag_any n w
  rw [h] at k
  exact k
set_option maxHeartbeats 1000000 in
set_option maxRecDepth 100000 in
theorem spec_ReadMag_any (l : List UInt8) (hl : l.length ≤ 1048577) (w : World) : Calls Tryd.prog 44 #[.string ⟨l.toArray⟩] w fun e w' => e = .returned (.tuple #[.int .i64 (readM l).1, .bool (readM l).2]) ∧ Below w.heap.size w w' := by
  have HB0 := hide (Below.refl w.heap.size w)
  have HL := hide hl
  by_cases h2 : (spl 46 l).length = 2
  case neg =>
    have HR := hide (readM_many h2)
    have HN := hide h2
    clear h2
    go_enter Tryd.func44, Tryd.ntmps44
    go_wp2_with fail
    refine (l01Split_not2 l 46 46 (by decide) hl HN.out _).mono ?_
    rintro e w1 ⟨A', m, c', rfl, hm, b⟩
    have HB1 := hide (HB0.out.trans (b.mono HB0.out.size))
    clear b
    go_wp2
    go_ret2
    exact ⟨ret_rd HR.out, HB1.out⟩
  have h0 : (46 : UInt8) ∈ l := by
    by_cases h0 : (46 : UInt8) ∈ l
    · exact h0
    · rw [spl_none h0] at h2
      simp at h2
  obtain ⟨a, b, hab, ha⟩ := part_at h0
  have hb : (46 : UInt8) ∉ b := by
    intro hb
    obtain ⟨x, y, z, r, e⟩ := spl_many ha hb
    rw [hab, e] at h2
    simp at h2
  have HS := hide (show spl 46 l = [a, b] from by rw [hab]; exact spl_two ha hb)
  have hla : a.length ≤ 1048577 := by rw [hab] at hl; simp at hl; omega
  have hlb : b.length ≤ 1048577 := by rw [hab] at hl; simp at hl; omega
  clear h2 h0 hb hl
  by_cases h4 : b.length = 3
  case neg =>
    have HR := hide (show readM l = (0, false) from readM_len (by rw [hab, unsign_app]; exact cut_some (mem_unsign ha)) h4)
    have hn : ((b.length : Int) != 3) = true := by
      have h : ¬ (b.length : Int) = 3 := by omega
      simpa using h
    clear hab ha
    go_enter Tryd.func44, Tryd.ntmps44
    go_wp2_with fail
    refine (l01Split_two _ _ _ 46 46 (by decide) HL.out HS.out _).mono ?_
    rintro e w1 ⟨g, c', rfl, hg, c0, c1, b⟩
    have HB1 := hide (HB0.out.trans (b.mono HB0.out.size))
    clear b
    go_wp2
    go_ret2
    exact ⟨ret_rd HR.out, HB1.out⟩
  match b, h4 with
  | [b0, b1, b2], _ =>
    clear hlb
    have hr : readM l = rdG (negB a) (unsign a) b0 b1 b2 l := by rw [hab]; exact readM_three ha
    have HNB := hide (show (inB (b0.toNat : Int) 48 57 && inB (b1.toNat : Int) 48 57 && inB (b2.toNat : Int) 48 57) = false → readM l = (0, false) from fun h => hr.trans (rdG_no (x := (resD (unsign a)).1) (y := (resD (unsign a)).2) rfl (fun e => by rw [hab] at e; rw [mag_dig e] at h; cases h)))
    rcases a with _ | ⟨c, t⟩
    · have hn : resD [] = (0, false) := resD_long (by simp [unsign])
      have HN := hide hn
      have HLA := hide hla
      have HR := hide (hr.trans (rdG_y (show resD (unsign []) = (0, false) from hn)))
      clear hr hn hab ha HNB hla
      go_enter Tryd.func44, Tryd.ntmps44
      go_wp2_with fail
      refine (l01Split_two l [] [b0, b1, b2] 46 46 (by decide) HL.out HS.out _).mono ?_
      rintro e w1 ⟨g, c', rfl, hg, c0, c1, b⟩
      have HB1 := hide (HB0.out.trans (b.mono HB0.out.size))
      clear b
      go_wp2_with fail
      refine (l01Number_bit HN.out HLA.out _).mono ?_
      rintro e w2 ⟨rfl, b⟩
      have c2 : w2.cell? ⟨g, 1, none⟩ = _ := (b.cell (p := ⟨g, 1, none⟩) hg).trans c1
      have HB2 := hide (HB1.out.trans (b.mono HB1.out.size))
      clear b c0 c1
      go_wp2
      go_ret2
      exact ⟨ret_rd HR.out, HB2.out⟩
    · have hlt : t.length ≤ 1048576 := by rw [List.length_cons] at hla; omega
      have eb0 : (⟨(c :: t).toArray⟩ : ByteArray)[0]'(by simp [ByteArray.size]) = c := rfl
      by_cases hc : c = 45
      · subst hc
        have hext : (⟨(45 :: t).toArray⟩ : ByteArray).extract 1 (t.length + 1) = ⟨t.toArray⟩ := by
          apply ByteArray.ext
          simp
        have HLA := hide (show t.length ≤ 1048577 from by omega)
        replace hr : readM l = rdG true t b0 b1 b2 l := hr
        obtain ⟨x, y, hn⟩ : ∃ x y, resD t = (x, y) := ⟨_, _, rfl⟩
        have HN := hide hn
        cases y
        case false =>
          have HR := hide (hr.trans (rdG_y hn))
          clear hr hn hab ha HNB
          go_enter Tryd.func44, Tryd.ntmps44
          go_wp2_with fail
          refine (l01Split_two _ _ _ 46 46 (by decide) HL.out HS.out _).mono ?_
          rintro e w1 ⟨g, c', rfl, hg, c0, c1, b⟩
          have HB1 := hide (HB0.out.trans (b.mono HB0.out.size))
          clear b
          go_wp2_with fail
          refine (l01Number_bit HN.out HLA.out _).mono ?_
          rintro e w2 ⟨rfl, b⟩
          have c2 : w2.cell? ⟨g, 1, none⟩ = _ := (b.cell (p := ⟨g, 1, none⟩) hg).trans c1
          have HB2 := hide (HB1.out.trans (b.mono HB1.out.size))
          clear b c0 c1
          go_wp2
          go_ret2
          exact ⟨ret_rd HR.out, HB2.out⟩
        cases hI : inB x 0 20
        case false =>
          have HR := hide (hr.trans (rdG_i hn hI))
          have HI := hide hI
          clear hr hn hab ha hI HNB
          go_enter Tryd.func44, Tryd.ntmps44
          go_wp2_with fail
          refine (l01Split_two _ _ _ 46 46 (by decide) HL.out HS.out _).mono ?_
          rintro e w1 ⟨g, c', rfl, hg, c0, c1, b⟩
          have HB1 := hide (HB0.out.trans (b.mono HB0.out.size))
          clear b
          go_wp2_with fail
          refine (l01Number_bit HN.out HLA.out _).mono ?_
          rintro e w2 ⟨rfl, b⟩
          have c2 : w2.cell? ⟨g, 1, none⟩ = _ := (b.cell (p := ⟨g, 1, none⟩) hg).trans c1
          have HB2 := hide (HB1.out.trans (b.mono HB1.out.size))
          clear b c0 c1
          go_wp2_with (go_at_call 77; refine (l00In_bit HI.out _).mono ?_; rintro e w' ⟨rfl, rfl⟩)
          go_ret2
          exact ⟨ret_rd HR.out, HB2.out⟩
        obtain ⟨g1, g2⟩ := inB_true hI
        have HI := hide hI
        have e0 : (⟨#[b0, b1, b2]⟩ : ByteArray)[0]'(by simp [ByteArray.size]) = b0 := rfl
        have e1 : (⟨#[b0, b1, b2]⟩ : ByteArray)[1]'(by simp [ByteArray.size]) = b1 := rfl
        have e2 : (⟨#[b0, b1, b2]⟩ : ByteArray)[2]'(by simp [ByteArray.size]) = b2 := rfl
        have u0 := wz_wrap b0
        have u1 := wz_wrap b1
        have u2 := wz_wrap b2
        have l0 := wz_le b0
        have l1 := wz_le b1
        have l2 := wz_le b2
        have v0 : IntKind.i64.wrap (wz b0 : Int) = (wz b0 : Int) := by rw [IntKind.wrap_i64]; omega
        have v1 : IntKind.i64.wrap (wz b1 : Int) = (wz b1 : Int) := by rw [IntKind.wrap_i64]; omega
        have v2 : IntKind.i64.wrap (wz b2 : Int) = (wz b2 : Int) := by rw [IntKind.wrap_i64]; omega
        have m0 : IntKind.i64.wrap (10 * x) = 10 * x := by rw [IntKind.wrap_i64]; omega
        have s0 : IntKind.i64.wrap (10 * x + (wz b0 : Int)) = (10 * x + (wz b0 : Int)) := by rw [IntKind.wrap_i64]; omega
        have m1 : IntKind.i64.wrap (10 * (10 * x + (wz b0 : Int))) = 10 * (10 * x + (wz b0 : Int)) := by rw [IntKind.wrap_i64]; omega
        have s1 : IntKind.i64.wrap (10 * (10 * x + (wz b0 : Int)) + (wz b1 : Int)) = (10 * (10 * x + (wz b0 : Int)) + (wz b1 : Int)) := by rw [IntKind.wrap_i64]; omega
        have m2 : IntKind.i64.wrap (10 * (10 * (10 * x + (wz b0 : Int)) + (wz b1 : Int))) = 10 * (10 * (10 * x + (wz b0 : Int)) + (wz b1 : Int)) := by rw [IntKind.wrap_i64]; omega
        have s2 : IntKind.i64.wrap (10 * (10 * (10 * x + (wz b0 : Int)) + (wz b1 : Int)) + (wz b2 : Int)) = (10 * (10 * (10 * x + (wz b0 : Int)) + (wz b1 : Int)) + (wz b2 : Int)) := by rw [IntKind.wrap_i64]; omega
        have mn : IntKind.i64.wrap (-(10 * (10 * (10 * x + (wz b0 : Int)) + (wz b1 : Int)) + (wz b2 : Int))) = -(10 * (10 * (10 * x + (wz b0 : Int)) + (wz b1 : Int)) + (wz b2 : Int)) := by rw [IntKind.wrap_i64]; omega
        have HRR := hide hr
        have HAB := hide hab
        clear hr hn hab ha hI
        go_enter Tryd.func44, Tryd.ntmps44
        go_wp2_with fail
        refine (l01Split_two _ _ _ 46 46 (by decide) HL.out HS.out _).mono ?_
        rintro e w1 ⟨g, c', rfl, hg, c0, c1, b⟩
        have HB1 := hide (HB0.out.trans (b.mono HB0.out.size))
        clear b
        go_wp2_with fail
        refine (l01Number_bit HN.out HLA.out _).mono ?_
        rintro e w2 ⟨rfl, b⟩
        have c2 : w2.cell? ⟨g, 1, none⟩ = _ := (b.cell (p := ⟨g, 1, none⟩) hg).trans c1
        have HB2 := hide (HB1.out.trans (b.mono HB1.out.size))
        clear b c0 c1
        go_wp2_with (go_at_call 77; refine (l00In_bit HI.out _).mono ?_; rintro e w' ⟨rfl, rfl⟩)
        go_loop [7, 9] (fun n i => (i = .int .i64 0 ∧ n = .int .i64 x) ∨ (i = .int .i64 1 ∧ n = .int .i64 (10 * x + (wz b0 : Int))) ∨ (i = .int .i64 2 ∧ n = .int .i64 (10 * (10 * x + (wz b0 : Int)) + (wz b1 : Int))) ∨ (i = .int .i64 3 ∧ n = .int .i64 (10 * (10 * (10 * x + (wz b0 : Int)) + (wz b1 : Int)) + (wz b2 : Int)))) (fun _ i => 3 - (intOf i).toNat)
        case atStart => exact .inl ⟨rfl, rfl⟩
        case round =>
          rcases hrel with ⟨rfl, rfl⟩ | ⟨rfl, rfl⟩ | ⟨rfl, rfl⟩ | ⟨rfl, rfl⟩
          · cases hin : inB (b0.toNat : Int) 48 57
            · have HR := hide (HNB.out (by simp only [hin, Bool.false_and, Bool.and_false]))
              have Hin := hide hin
              clear hin
              go_wp2_with (go_at_call 80; refine (l01Digit_bit Hin.out _).mono ?_; rintro e w' ⟨rfl, rfl⟩)
              go_ret2
              exact ⟨ret_rd HR.out, HB2.out⟩
            · have Hin := hide hin
              clear hin
              go_wp2_with (go_at_call 80; refine (l01Digit_bit Hin.out _).mono ?_; rintro e w' ⟨rfl, rfl⟩)
              go_round
              case rel => exact .inr (.inl ⟨rfl, rfl⟩)
              case measure => simp [intOf]
          · cases hin : inB (b1.toNat : Int) 48 57
            · have HR := hide (HNB.out (by simp only [hin, Bool.false_and, Bool.and_false]))
              have Hin := hide hin
              clear hin
              go_wp2_with (go_at_call 80; refine (l01Digit_bit Hin.out _).mono ?_; rintro e w' ⟨rfl, rfl⟩)
              go_ret2
              exact ⟨ret_rd HR.out, HB2.out⟩
            · have Hin := hide hin
              clear hin
              go_wp2_with (go_at_call 80; refine (l01Digit_bit Hin.out _).mono ?_; rintro e w' ⟨rfl, rfl⟩)
              go_round
              case rel => exact .inr (.inr (.inl ⟨rfl, rfl⟩))
              case measure => simp [intOf]
          · cases hin : inB (b2.toNat : Int) 48 57
            · have HR := hide (HNB.out (by simp only [hin, Bool.false_and, Bool.and_false]))
              have Hin := hide hin
              clear hin
              go_wp2_with (go_at_call 80; refine (l01Digit_bit Hin.out _).mono ?_; rintro e w' ⟨rfl, rfl⟩)
              go_ret2
              exact ⟨ret_rd HR.out, HB2.out⟩
            · have Hin := hide hin
              clear hin
              go_wp2_with (go_at_call 80; refine (l01Digit_bit Hin.out _).mono ?_; rintro e w' ⟨rfl, rfl⟩)
              go_round
              case rel => exact .inr (.inr (.inr ⟨rfl, rfl⟩))
              case measure => simp [intOf]
          · cases hM : inB (-(10 * (10 * (10 * x + (wz b0 : Int)) + (wz b1 : Int)) + (wz b2 : Int))) (-2000) 20000
            case false =>
              have HM := hide hM
              have HR := hide (show readM l = (0, false) from HRR.out.trans (rdG_no HN.out (show ¬ magText2 (-(10 * (10 * (10 * x + (wz b0 : Int)) + (wz b1 : Int)) + (wz b2 : Int))) = l from by rw [HAB.out]; exact mag_empty hM)))
              clear hM
              go_wp2_with (go_at_call 55; refine (l02Mag_bit HM.out _).mono ?_; rintro e w' ⟨rfl, rfl⟩)
              go_ret2
              exact ⟨ret_rd HR.out, HB2.out⟩
            have HM := hide hM
            have HG := hide (inB_true hM)
            have htx : magText2 (-(10 * (10 * (10 * x + (wz b0 : Int)) + (wz b1 : Int)) + (wz b2 : Int))) = magT (-(10 * (10 * (10 * x + (wz b0 : Int)) + (wz b1 : Int)) + (wz b2 : Int))) := by unfold magText2; rw [if_pos hM]
            clear hM
            by_cases hq : magT (-(10 * (10 * (10 * x + (wz b0 : Int)) + (wz b1 : Int)) + (wz b2 : Int))) = l
            · have HR := hide (show readM l = ((-(10 * (10 * (10 * x + (wz b0 : Int)) + (wz b1 : Int)) + (wz b2 : Int))), true) from HRR.out.trans (rdG_ok HN.out HI.out (show magText2 (-(10 * (10 * (10 * x + (wz b0 : Int)) + (wz b1 : Int)) + (wz b2 : Int))) = l from htx.trans hq)))
              clear htx
              go_wp2_with (go_at_call 55; refine (l02Mag_bit HM.out _).mono ?_; rintro e w' ⟨rfl, rfl⟩)
              refine (l02Text_any _ HG.out _).mono ?_
              rintro e w3 ⟨rfl, b⟩
              have HB3 := hide (HB2.out.trans (b.mono HB2.out.size))
              clear b
              go_wp2
              go_ret2
              exact ⟨ret_rd HR.out, HB3.out⟩
            · have HR := hide (show readM l = (0, false) from HRR.out.trans (rdG_no HN.out (show ¬ magText2 (-(10 * (10 * (10 * x + (wz b0 : Int)) + (wz b1 : Int)) + (wz b2 : Int))) = l from fun e => hq (htx.symm.trans e))))
              have hq2 : (magT (-(10 * (10 * (10 * x + (wz b0 : Int)) + (wz b1 : Int)) + (wz b2 : Int))) == l) = false := beq_eq_false_iff_ne.2 hq
              clear htx
              go_wp2_with (go_at_call 55; refine (l02Mag_bit HM.out _).mono ?_; rintro e w' ⟨rfl, rfl⟩)
              refine (l02Text_any _ HG.out _).mono ?_
              rintro e w3 ⟨rfl, b⟩
              have HB3 := hide (HB2.out.trans (b.mono HB2.out.size))
              clear b
              go_wp2
              go_ret2
              exact ⟨ret_rd HR.out, HB3.out⟩
      · have hcb : ((c.toNat : Int) == 45) = false := by
          have h2 : ¬ (c.toNat : Int) = 45 := fun e => hc (UInt8.toNat_inj.1 (show c.toNat = 45 from by omega))
          simpa using h2
        have HLA := hide (show (c :: t).length ≤ 1048577 from hla)
        replace hr : readM l = rdG false (c :: t) b0 b1 b2 l := by
          rw [hr, show negB (c :: t) = false from beq_eq_false_iff_ne.2 hc, show unsign (c :: t) = c :: t from if_neg hc]
        obtain ⟨x, y, hn⟩ : ∃ x y, resD (c :: t) = (x, y) := ⟨_, _, rfl⟩
        have HN := hide hn
        cases y
        case false =>
          have HR := hide (hr.trans (rdG_y hn))
          clear hr hn hab ha HNB
          go_enter Tryd.func44, Tryd.ntmps44
          go_wp2_with fail
          refine (l01Split_two _ _ _ 46 46 (by decide) HL.out HS.out _).mono ?_
          rintro e w1 ⟨g, c', rfl, hg, c0, c1, b⟩
          have HB1 := hide (HB0.out.trans (b.mono HB0.out.size))
          clear b
          go_wp2_with fail
          refine (l01Number_bit HN.out HLA.out _).mono ?_
          rintro e w2 ⟨rfl, b⟩
          have c2 : w2.cell? ⟨g, 1, none⟩ = _ := (b.cell (p := ⟨g, 1, none⟩) hg).trans c1
          have HB2 := hide (HB1.out.trans (b.mono HB1.out.size))
          clear b c0 c1
          go_wp2
          go_ret2
          exact ⟨ret_rd HR.out, HB2.out⟩
        cases hI : inB x 0 20
        case false =>
          have HR := hide (hr.trans (rdG_i hn hI))
          have HI := hide hI
          clear hr hn hab ha hI HNB
          go_enter Tryd.func44, Tryd.ntmps44
          go_wp2_with fail
          refine (l01Split_two _ _ _ 46 46 (by decide) HL.out HS.out _).mono ?_
          rintro e w1 ⟨g, c', rfl, hg, c0, c1, b⟩
          have HB1 := hide (HB0.out.trans (b.mono HB0.out.size))
          clear b
          go_wp2_with fail
          refine (l01Number_bit HN.out HLA.out _).mono ?_
          rintro e w2 ⟨rfl, b⟩
          have c2 : w2.cell? ⟨g, 1, none⟩ = _ := (b.cell (p := ⟨g, 1, none⟩) hg).trans c1
          have HB2 := hide (HB1.out.trans (b.mono HB1.out.size))
          clear b c0 c1
          go_wp2_with (go_at_call 77; refine (l00In_bit HI.out _).mono ?_; rintro e w' ⟨rfl, rfl⟩)
          go_ret2
          exact ⟨ret_rd HR.out, HB2.out⟩
        obtain ⟨g1, g2⟩ := inB_true hI
        have HI := hide hI
        have e0 : (⟨#[b0, b1, b2]⟩ : ByteArray)[0]'(by simp [ByteArray.size]) = b0 := rfl
        have e1 : (⟨#[b0, b1, b2]⟩ : ByteArray)[1]'(by simp [ByteArray.size]) = b1 := rfl
        have e2 : (⟨#[b0, b1, b2]⟩ : ByteArray)[2]'(by simp [ByteArray.size]) = b2 := rfl
        have u0 := wz_wrap b0
        have u1 := wz_wrap b1
        have u2 := wz_wrap b2
        have l0 := wz_le b0
        have l1 := wz_le b1
        have l2 := wz_le b2
        have v0 : IntKind.i64.wrap (wz b0 : Int) = (wz b0 : Int) := by rw [IntKind.wrap_i64]; omega
        have v1 : IntKind.i64.wrap (wz b1 : Int) = (wz b1 : Int) := by rw [IntKind.wrap_i64]; omega
        have v2 : IntKind.i64.wrap (wz b2 : Int) = (wz b2 : Int) := by rw [IntKind.wrap_i64]; omega
        have m0 : IntKind.i64.wrap (10 * x) = 10 * x := by rw [IntKind.wrap_i64]; omega
        have s0 : IntKind.i64.wrap (10 * x + (wz b0 : Int)) = (10 * x + (wz b0 : Int)) := by rw [IntKind.wrap_i64]; omega
        have m1 : IntKind.i64.wrap (10 * (10 * x + (wz b0 : Int))) = 10 * (10 * x + (wz b0 : Int)) := by rw [IntKind.wrap_i64]; omega
        have s1 : IntKind.i64.wrap (10 * (10 * x + (wz b0 : Int)) + (wz b1 : Int)) = (10 * (10 * x + (wz b0 : Int)) + (wz b1 : Int)) := by rw [IntKind.wrap_i64]; omega
        have m2 : IntKind.i64.wrap (10 * (10 * (10 * x + (wz b0 : Int)) + (wz b1 : Int))) = 10 * (10 * (10 * x + (wz b0 : Int)) + (wz b1 : Int)) := by rw [IntKind.wrap_i64]; omega
        have s2 : IntKind.i64.wrap (10 * (10 * (10 * x + (wz b0 : Int)) + (wz b1 : Int)) + (wz b2 : Int)) = (10 * (10 * (10 * x + (wz b0 : Int)) + (wz b1 : Int)) + (wz b2 : Int)) := by rw [IntKind.wrap_i64]; omega
        have mn : IntKind.i64.wrap (-(10 * (10 * (10 * x + (wz b0 : Int)) + (wz b1 : Int)) + (wz b2 : Int))) = -(10 * (10 * (10 * x + (wz b0 : Int)) + (wz b1 : Int)) + (wz b2 : Int)) := by rw [IntKind.wrap_i64]; omega
        have HRR := hide hr
        have HAB := hide hab
        clear hr hn hab ha hI
        go_enter Tryd.func44, Tryd.ntmps44
        go_wp2_with fail
        refine (l01Split_two _ _ _ 46 46 (by decide) HL.out HS.out _).mono ?_
        rintro e w1 ⟨g, c', rfl, hg, c0, c1, b⟩
        have HB1 := hide (HB0.out.trans (b.mono HB0.out.size))
        clear b
        go_wp2_with fail
        refine (l01Number_bit HN.out HLA.out _).mono ?_
        rintro e w2 ⟨rfl, b⟩
        have c2 : w2.cell? ⟨g, 1, none⟩ = _ := (b.cell (p := ⟨g, 1, none⟩) hg).trans c1
        have HB2 := hide (HB1.out.trans (b.mono HB1.out.size))
        clear b c0 c1
        go_wp2_with (go_at_call 77; refine (l00In_bit HI.out _).mono ?_; rintro e w' ⟨rfl, rfl⟩)
        go_loop [7, 9] (fun n i => (i = .int .i64 0 ∧ n = .int .i64 x) ∨ (i = .int .i64 1 ∧ n = .int .i64 (10 * x + (wz b0 : Int))) ∨ (i = .int .i64 2 ∧ n = .int .i64 (10 * (10 * x + (wz b0 : Int)) + (wz b1 : Int))) ∨ (i = .int .i64 3 ∧ n = .int .i64 (10 * (10 * (10 * x + (wz b0 : Int)) + (wz b1 : Int)) + (wz b2 : Int)))) (fun _ i => 3 - (intOf i).toNat)
        case atStart => exact .inl ⟨rfl, rfl⟩
        case round =>
          rcases hrel with ⟨rfl, rfl⟩ | ⟨rfl, rfl⟩ | ⟨rfl, rfl⟩ | ⟨rfl, rfl⟩
          · cases hin : inB (b0.toNat : Int) 48 57
            · have HR := hide (HNB.out (by simp only [hin, Bool.false_and, Bool.and_false]))
              have Hin := hide hin
              clear hin
              go_wp2_with (go_at_call 80; refine (l01Digit_bit Hin.out _).mono ?_; rintro e w' ⟨rfl, rfl⟩)
              go_ret2
              exact ⟨ret_rd HR.out, HB2.out⟩
            · have Hin := hide hin
              clear hin
              go_wp2_with (go_at_call 80; refine (l01Digit_bit Hin.out _).mono ?_; rintro e w' ⟨rfl, rfl⟩)
              go_round
              case rel => exact .inr (.inl ⟨rfl, rfl⟩)
              case measure => simp [intOf]
          · cases hin : inB (b1.toNat : Int) 48 57
            · have HR := hide (HNB.out (by simp only [hin, Bool.false_and, Bool.and_false]))
              have Hin := hide hin
              clear hin
              go_wp2_with (go_at_call 80; refine (l01Digit_bit Hin.out _).mono ?_; rintro e w' ⟨rfl, rfl⟩)
              go_ret2
              exact ⟨ret_rd HR.out, HB2.out⟩
            · have Hin := hide hin
              clear hin
              go_wp2_with (go_at_call 80; refine (l01Digit_bit Hin.out _).mono ?_; rintro e w' ⟨rfl, rfl⟩)
              go_round
              case rel => exact .inr (.inr (.inl ⟨rfl, rfl⟩))
              case measure => simp [intOf]
          · cases hin : inB (b2.toNat : Int) 48 57
            · have HR := hide (HNB.out (by simp only [hin, Bool.false_and, Bool.and_false]))
              have Hin := hide hin
              clear hin
              go_wp2_with (go_at_call 80; refine (l01Digit_bit Hin.out _).mono ?_; rintro e w' ⟨rfl, rfl⟩)
              go_ret2
              exact ⟨ret_rd HR.out, HB2.out⟩
            · have Hin := hide hin
              clear hin
              go_wp2_with (go_at_call 80; refine (l01Digit_bit Hin.out _).mono ?_; rintro e w' ⟨rfl, rfl⟩)
              go_round
              case rel => exact .inr (.inr (.inr ⟨rfl, rfl⟩))
              case measure => simp [intOf]
          · cases hM : inB (10 * (10 * (10 * x + (wz b0 : Int)) + (wz b1 : Int)) + (wz b2 : Int)) (-2000) 20000
            case false =>
              have HM := hide hM
              have HR := hide (show readM l = (0, false) from HRR.out.trans (rdG_no HN.out (show ¬ magText2 (10 * (10 * (10 * x + (wz b0 : Int)) + (wz b1 : Int)) + (wz b2 : Int)) = l from by rw [HAB.out]; exact mag_empty hM)))
              clear hM
              go_wp2_with (go_at_call 55; refine (l02Mag_bit HM.out _).mono ?_; rintro e w' ⟨rfl, rfl⟩)
              go_ret2
              exact ⟨ret_rd HR.out, HB2.out⟩
            have HM := hide hM
            have HG := hide (inB_true hM)
            have htx : magText2 (10 * (10 * (10 * x + (wz b0 : Int)) + (wz b1 : Int)) + (wz b2 : Int)) = magT (10 * (10 * (10 * x + (wz b0 : Int)) + (wz b1 : Int)) + (wz b2 : Int)) := by unfold magText2; rw [if_pos hM]
            clear hM
            by_cases hq : magT (10 * (10 * (10 * x + (wz b0 : Int)) + (wz b1 : Int)) + (wz b2 : Int)) = l
            · have HR := hide (show readM l = ((10 * (10 * (10 * x + (wz b0 : Int)) + (wz b1 : Int)) + (wz b2 : Int)), true) from HRR.out.trans (rdG_ok HN.out HI.out (show magText2 (10 * (10 * (10 * x + (wz b0 : Int)) + (wz b1 : Int)) + (wz b2 : Int)) = l from htx.trans hq)))
              clear htx
              go_wp2_with (go_at_call 55; refine (l02Mag_bit HM.out _).mono ?_; rintro e w' ⟨rfl, rfl⟩)
              refine (l02Text_any _ HG.out _).mono ?_
              rintro e w3 ⟨rfl, b⟩
              have HB3 := hide (HB2.out.trans (b.mono HB2.out.size))
              clear b
              go_wp2
              go_ret2
              exact ⟨ret_rd HR.out, HB3.out⟩
            · have HR := hide (show readM l = (0, false) from HRR.out.trans (rdG_no HN.out (show ¬ magText2 (10 * (10 * (10 * x + (wz b0 : Int)) + (wz b1 : Int)) + (wz b2 : Int)) = l from fun e => hq (htx.symm.trans e))))
              have hq2 : (magT (10 * (10 * (10 * x + (wz b0 : Int)) + (wz b1 : Int)) + (wz b2 : Int)) == l) = false := beq_eq_false_iff_ne.2 hq
              clear htx
              go_wp2_with (go_at_call 55; refine (l02Mag_bit HM.out _).mono ?_; rintro e w' ⟨rfl, rfl⟩)
              refine (l02Text_any _ HG.out _).mono ?_
              rintro e w3 ⟨rfl, b⟩
              have HB3 := hide (HB2.out.trans (b.mono HB2.out.size))
              clear b
              go_wp2
              go_ret2
              exact ⟨ret_rd HR.out, HB3.out⟩
theorem rma_end : True := trivial
end Go.Proofs.YtdplmbndafmlgaaDoor
