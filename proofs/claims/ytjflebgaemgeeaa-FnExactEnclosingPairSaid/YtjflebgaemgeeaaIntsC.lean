/-
  Contracts of the search for the two neighbours in a list of integers.
-/
import Derived.Test.YtjflebgaemgeeaaIntsB
import Derived.BigQuiet
namespace Go.Proofs.Ytjflebgaemgeeaa
open Go.RowKit Pl
set_option linter.unusedVariables false
set_option linter.unusedSimpArgs false
set_option maxHeartbeats 4000000 in
theorem impl_EnclosingPair_any (A : Option Addr) (c : Nat) (l : List Int) (m : Int) (w : World) (hl : l.length ≤ 1048576) (hr : Rd w w.heap.size 1 A l.length (ints l)) :
    Calls Try.prog 25 #[.slice A l.length c, .int .i64 m] w fun e w' => e = .returned (.tuple #[.int .i64 (pairOf l m).1, .int .i64 (pairOf l m).2.1, .int .i64 (pairOf l m).2.2]) ∧ Below w.heap.size w w' := by
  have HR := hide hr
  clear hr
  cases h1 : magsB l
  · skip
    go_enter Try.func25, Try.ntmps25
    go_wp2_with (first | (go_at_call 67; refine (areMags_any A c l _ hl HR.out).mono ?_; rintro e w1 ⟨rfl, b⟩) | (go_at_call 68; refine (impl_ValidMag_any _ _).mono ?_; rintro e w' ⟨rfl, rfl⟩))
    go_ret3
    exact ⟨ret3 (by simp [pairOf, h1]), b⟩
  skip
  cases h2 : inB m (-2000) 20000
  · go_enter Try.func25, Try.ntmps25
    go_wp2_with (first | (go_at_call 67; refine (areMags_any A c l _ hl HR.out).mono ?_; rintro e w1 ⟨rfl, b⟩) | (go_at_call 68; refine (impl_ValidMag_any _ _).mono ?_; rintro e w' ⟨rfl, rfl⟩))
    go_ret3
    exact ⟨ret3 (by simp [pairOf, h2]), b⟩
  go_enter Try.func25, Try.ntmps25
  go_wp2_with (first | (go_at_call 67; refine (areMags_any A c l _ hl HR.out).mono ?_; rintro e w1 ⟨rfl, b⟩) | (go_at_call 68; refine (impl_ValidMag_any _ _).mono ?_; rintro e w' ⟨rfl, rfl⟩))
  have R1 := hide ((HR.out.below b).more b.size)
  have HB := hide b
  clear b
  go_loop [7, 8, 21] (fun s t i => ∃ k : Nat, k ≤ l.length ∧ i = .int .i64 k ∧ s = .int .i64 (lowTo l m k) ∧ t = .int .i64 (highTo l m k)) (fun _ _ i => l.length - (intOf i).toNat)
  case atStart => exact ⟨0, by omega, rfl, rfl, rfl⟩
  case round =>
    obtain ⟨k, hk, rfl, rfl, rfl⟩ := hrel
    by_cases hlt : k < l.length
    · obtain ⟨g, off, rfl, hg, hc⟩ := R1.out.int hlt
      have i1 : (0 : Int) ≤ (k : Int) := by omega
      have i2 : (k : Int) < (l.length : Int) := by omega
      rcases low_cases l m k with hlo | ⟨p, hp, hlo⟩ <;> rcases high_cases l m k with hhi | ⟨q, hq, hhi⟩
      · rw [hlo, hhi]
        by_cases hx : l[k] ≤ m
        ·
          have hx2 : ¬ m < l[k] := (by omega)
          have HS := hide (show lowTo l m (k + 1) = (k : Int) from by rw [lowTo_succ hlt, hlo, if_pos ⟨hx, .inl (by omega)⟩])
          have HT := hide (show highTo l m (k + 1) = (-1 : Int) from by rw [highTo_succ hlt, hhi, if_neg (fun h => by have := h.1; omega)])
          clear hlo hhi
          go_wp2_with fail
          go_round
          case rel => exact ⟨k + 1, by omega, by go_num, by rw [HS.out], by rw [HT.out]⟩
          case measure => simp [intOf]; omega
        ·
          have hx2 : m < l[k] := (by omega)
          have HS := hide (show lowTo l m (k + 1) = (-1 : Int) from by rw [lowTo_succ hlt, hlo, if_neg (fun h => hx h.1)])
          have HT := hide (show highTo l m (k + 1) = (k : Int) from by rw [highTo_succ hlt, hhi, if_pos ⟨by omega, .inl (by omega)⟩])
          clear hlo hhi
          go_wp2_with fail
          go_round
          case rel => exact ⟨k + 1, by omega, by go_num, by rw [HS.out], by rw [HT.out]⟩
          case measure => simp [intOf]; omega
      · rw [hlo, hhi]
        have hql : q < l.length := by omega
        have q1 : (0 : Int) ≤ (q : Int) := by omega
        have q3 : ¬ (q : Int) < 0 := by omega
        have q2 : (q : Int) < (l.length : Int) := by omega
        obtain ⟨g2, off2, he2, hg2, hc2⟩ := R1.out.int hql
        injection he2 with he2
        injection he2 with he21 he22 _
        subst he21 he22
        by_cases hx : l[k] ≤ m
        ·
          have hx2 : ¬ m < l[k] := (by omega)
          have HS := hide (show lowTo l m (k + 1) = (k : Int) from by rw [lowTo_succ hlt, hlo, if_pos ⟨hx, .inl (by omega)⟩])
          have HT := hide (show highTo l m (k + 1) = (q : Int) from by rw [highTo_succ hlt, hhi, if_neg (fun h => by have := h.1; omega)])
          clear hlo hhi
          go_wp2_with fail
          go_round
          case rel => exact ⟨k + 1, by omega, by go_num, by rw [HS.out], by rw [HT.out]⟩
          case measure => simp [intOf]; omega
        · by_cases hy : l[k] < l[q]
          ·
            have hx2 : m < l[k] := (by omega)
            have HS := hide (show lowTo l m (k + 1) = (-1 : Int) from by rw [lowTo_succ hlt, hlo, if_neg (fun h => hx h.1)])
            have HT := hide (show highTo l m (k + 1) = (k : Int) from by rw [highTo_succ hlt, hhi, if_pos ⟨by omega, .inr (by rw [getD_at hql]; exact hy)⟩])
            clear hlo hhi
            go_wp2_with fail
            go_round
            case rel => exact ⟨k + 1, by omega, by go_num, by rw [HS.out], by rw [HT.out]⟩
            case measure => simp [intOf]; omega
          ·
            have hx2 : m < l[k] := (by omega)
            have HS := hide (show lowTo l m (k + 1) = (-1 : Int) from by rw [lowTo_succ hlt, hlo, if_neg (fun h => hx h.1)])
            have HT := hide (show highTo l m (k + 1) = (q : Int) from by rw [highTo_succ hlt, hhi, if_neg (fun h => h.2.elim (fun h => by omega) (fun h => hy (by rw [getD_at hql] at h; exact h)))])
            clear hlo hhi
            go_wp2_with fail
            go_round
            case rel => exact ⟨k + 1, by omega, by go_num, by rw [HS.out], by rw [HT.out]⟩
            case measure => simp [intOf]; omega
      · rw [hlo, hhi]
        have hpl : p < l.length := by omega
        have p1 : (0 : Int) ≤ (p : Int) := by omega
        have p3 : ¬ (p : Int) < 0 := by omega
        have p2 : (p : Int) < (l.length : Int) := by omega
        obtain ⟨g1, off1, he1, hg1, hc1⟩ := R1.out.int hpl
        injection he1 with he1
        injection he1 with he11 he12 _
        subst he11 he12
        by_cases hx : l[k] ≤ m
        · by_cases hy : l[p] < l[k]
          ·
            have hx2 : ¬ m < l[k] := (by omega)
            have HS := hide (show lowTo l m (k + 1) = (k : Int) from by rw [lowTo_succ hlt, hlo, if_pos ⟨hx, .inr (by rw [getD_at hpl]; exact hy)⟩])
            have HT := hide (show highTo l m (k + 1) = (-1 : Int) from by rw [highTo_succ hlt, hhi, if_neg (fun h => by have := h.1; omega)])
            clear hlo hhi
            go_wp2_with fail
            go_round
            case rel => exact ⟨k + 1, by omega, by go_num, by rw [HS.out], by rw [HT.out]⟩
            case measure => simp [intOf]; omega
          ·
            have hx2 : ¬ m < l[k] := (by omega)
            have HS := hide (show lowTo l m (k + 1) = (p : Int) from by rw [lowTo_succ hlt, hlo, if_neg (fun h => h.2.elim (fun h => by omega) (fun h => hy (by rw [getD_at hpl] at h; exact h)))])
            have HT := hide (show highTo l m (k + 1) = (-1 : Int) from by rw [highTo_succ hlt, hhi, if_neg (fun h => by have := h.1; omega)])
            clear hlo hhi
            go_wp2_with fail
            go_round
            case rel => exact ⟨k + 1, by omega, by go_num, by rw [HS.out], by rw [HT.out]⟩
            case measure => simp [intOf]; omega
        ·
          have hx2 : m < l[k] := (by omega)
          have HS := hide (show lowTo l m (k + 1) = (p : Int) from by rw [lowTo_succ hlt, hlo, if_neg (fun h => hx h.1)])
          have HT := hide (show highTo l m (k + 1) = (k : Int) from by rw [highTo_succ hlt, hhi, if_pos ⟨by omega, .inl (by omega)⟩])
          clear hlo hhi
          go_wp2_with fail
          go_round
          case rel => exact ⟨k + 1, by omega, by go_num, by rw [HS.out], by rw [HT.out]⟩
          case measure => simp [intOf]; omega
      · rw [hlo, hhi]
        have hpl : p < l.length := by omega
        have p1 : (0 : Int) ≤ (p : Int) := by omega
        have p3 : ¬ (p : Int) < 0 := by omega
        have p2 : (p : Int) < (l.length : Int) := by omega
        obtain ⟨g1, off1, he1, hg1, hc1⟩ := R1.out.int hpl
        injection he1 with he1
        injection he1 with he11 he12 _
        subst he11 he12
        have hql : q < l.length := by omega
        have q1 : (0 : Int) ≤ (q : Int) := by omega
        have q3 : ¬ (q : Int) < 0 := by omega
        have q2 : (q : Int) < (l.length : Int) := by omega
        obtain ⟨g2, off2, he2, hg2, hc2⟩ := R1.out.int hql
        injection he2 with he2
        injection he2 with he21 he22 _
        subst he21 he22
        by_cases hx : l[k] ≤ m
        · by_cases hy : l[p] < l[k]
          ·
            have hx2 : ¬ m < l[k] := (by omega)
            have HS := hide (show lowTo l m (k + 1) = (k : Int) from by rw [lowTo_succ hlt, hlo, if_pos ⟨hx, .inr (by rw [getD_at hpl]; exact hy)⟩])
            have HT := hide (show highTo l m (k + 1) = (q : Int) from by rw [highTo_succ hlt, hhi, if_neg (fun h => by have := h.1; omega)])
            clear hlo hhi
            go_wp2_with fail
            go_round
            case rel => exact ⟨k + 1, by omega, by go_num, by rw [HS.out], by rw [HT.out]⟩
            case measure => simp [intOf]; omega
          ·
            have hx2 : ¬ m < l[k] := (by omega)
            have HS := hide (show lowTo l m (k + 1) = (p : Int) from by rw [lowTo_succ hlt, hlo, if_neg (fun h => h.2.elim (fun h => by omega) (fun h => hy (by rw [getD_at hpl] at h; exact h)))])
            have HT := hide (show highTo l m (k + 1) = (q : Int) from by rw [highTo_succ hlt, hhi, if_neg (fun h => by have := h.1; omega)])
            clear hlo hhi
            go_wp2_with fail
            go_round
            case rel => exact ⟨k + 1, by omega, by go_num, by rw [HS.out], by rw [HT.out]⟩
            case measure => simp [intOf]; omega
        · by_cases hy : l[k] < l[q]
          ·
            have hx2 : m < l[k] := (by omega)
            have HS := hide (show lowTo l m (k + 1) = (p : Int) from by rw [lowTo_succ hlt, hlo, if_neg (fun h => hx h.1)])
            have HT := hide (show highTo l m (k + 1) = (k : Int) from by rw [highTo_succ hlt, hhi, if_pos ⟨by omega, .inr (by rw [getD_at hql]; exact hy)⟩])
            clear hlo hhi
            go_wp2_with fail
            go_round
            case rel => exact ⟨k + 1, by omega, by go_num, by rw [HS.out], by rw [HT.out]⟩
            case measure => simp [intOf]; omega
          ·
            have hx2 : m < l[k] := (by omega)
            have HS := hide (show lowTo l m (k + 1) = (p : Int) from by rw [lowTo_succ hlt, hlo, if_neg (fun h => hx h.1)])
            have HT := hide (show highTo l m (k + 1) = (q : Int) from by rw [highTo_succ hlt, hhi, if_neg (fun h => h.2.elim (fun h => by omega) (fun h => hy (by rw [getD_at hql] at h; exact h)))])
            clear hlo hhi
            go_wp2_with fail
            go_round
            case rel => exact ⟨k + 1, by omega, by go_num, by rw [HS.out], by rw [HT.out]⟩
            case measure => simp [intOf]; omega
    · obtain rfl : k = l.length := by omega
      rcases low_cases l m l.length with hlo | ⟨p, hp, hlo⟩ <;> rcases high_cases l m l.length with hhi | ⟨q, hq, hhi⟩
      · rw [hlo, hhi]
        have P1 := hide (show pairOf l m = (0, 0, 3) from by unfold pairOf; rw [if_pos ⟨h1, h2⟩, hlo, hhi]; simp)
        clear hlo hhi
        (go_wp2_with fail)
        go_ret3
        exact ⟨ret3 (by rw [P1.out]), HB.out⟩
      · rw [hlo, hhi]
        have P1 := hide (show pairOf l m = (0, 0, 3) from by unfold pairOf; rw [if_pos ⟨h1, h2⟩, hlo, hhi]; simp)
        clear hlo hhi
        (go_wp2_with fail)
        go_ret3
        exact ⟨ret3 (by rw [P1.out]), HB.out⟩
      · rw [hlo, hhi]
        have P1 := hide (show pairOf l m = (0, 0, 3) from by unfold pairOf; rw [if_pos ⟨h1, h2⟩, hlo, hhi]; simp)
        clear hlo hhi
        (go_wp2_with fail)
        go_ret3
        exact ⟨ret3 (by rw [P1.out]), HB.out⟩
      · rw [hlo, hhi]
        have P1 := hide (show pairOf l m = ((p : Int), (q : Int), 0) from by unfold pairOf; rw [if_pos ⟨h1, h2⟩, hlo, hhi]; simp)
        clear hlo hhi
        (go_wp2_with fail)
        go_ret3
        exact ⟨ret3 (by rw [P1.out]), HB.out⟩
set_option maxHeartbeats 4000000 in
theorem spec_EnclosingPair_any (A : Option Addr) (c : Nat) (l : List Int) (m : Int) (w : World) (hl : l.length ≤ 1048576) (hr : Rd w w.heap.size 1 A l.length (ints l)) :
    Calls Try.prog 24 #[.slice A l.length c, .int .i64 m] w fun e w' => e = .returned (.tuple #[.int .i64 (pairOf l m).1, .int .i64 (pairOf l m).2.1, .int .i64 (pairOf l m).2.2]) ∧ Below w.heap.size w w' := by
  have HR := hide hr
  clear hr
  cases h1 : magsB l
  · have e0 : listCode l = 2 := by simp [listCode, h1]
    go_enter Try.func24, Try.ntmps24
    go_wp2_with (first | (go_at_call 65; refine (l02List_any A c l _ hl HR.out).mono ?_; rintro e w' ⟨rfl, rfl⟩) | (go_at_call 66; refine (spec_l02Mag_any _ _).mono ?_; rintro e w' ⟨rfl, rfl⟩))
    go_ret3
    exact ⟨ret3 (by simp [pairOf, h1]), (by repeat (first | exact Below.refl _ _ | assumption | refine Below.drew ?_ | refine below_drewN ?_ _ | refine Below.alloc ?_ (by first | omega | (simp; done) | (simp; omega)) _ | refine Below.setCell ?_ (by first | omega | (simp; done) | (simp; omega)) _ | refine Below.trans ?_ (Below.mono (by assumption) (by first | omega | (simp; done) | (simp; omega)))))⟩
  have e0 : listCode l = 0 := by simp [listCode, h1]
  cases h2 : inB m (-2000) 20000
  · go_enter Try.func24, Try.ntmps24
    go_wp2_with (first | (go_at_call 65; refine (l02List_any A c l _ hl HR.out).mono ?_; rintro e w' ⟨rfl, rfl⟩) | (go_at_call 66; refine (spec_l02Mag_any _ _).mono ?_; rintro e w' ⟨rfl, rfl⟩))
    go_ret3
    exact ⟨ret3 (by simp [pairOf, h2]), (by repeat (first | exact Below.refl _ _ | assumption | refine Below.drew ?_ | refine below_drewN ?_ _ | refine Below.alloc ?_ (by first | omega | (simp; done) | (simp; omega)) _ | refine Below.setCell ?_ (by first | omega | (simp; done) | (simp; omega)) _ | refine Below.trans ?_ (Below.mono (by assumption) (by first | omega | (simp; done) | (simp; omega)))))⟩
  go_enter Try.func24, Try.ntmps24
  go_wp2_with (first | (go_at_call 65; refine (l02List_any A c l _ hl HR.out).mono ?_; rintro e w' ⟨rfl, rfl⟩) | (go_at_call 66; refine (spec_l02Mag_any _ _).mono ?_; rintro e w' ⟨rfl, rfl⟩))
  have R1 := HR
  go_loopw [8, 9, 10] (fun s t i wr => ∃ k : Nat, k ≤ l.length ∧ i = .int .i64 k ∧ s = .int .i64 (lowTo l m k) ∧ t = .int .i64 (highTo l m k) ∧ ∃ n, wr = w.drewN n) (fun _ _ i _ => l.length - (intOf i).toNat)
  case atStart => exact ⟨0, by omega, rfl, rfl, rfl, 0, rfl⟩
  case round =>
    obtain ⟨k, hk, rfl, rfl, rfl, n, rfl⟩ := hrel
    by_cases hlt : k < l.length
    · obtain ⟨g, off, rfl, hg, hc⟩ := R1.out.int hlt
      have i1 : (0 : Int) ≤ (k : Int) := by omega
      have i2 : (k : Int) < (l.length : Int) := by omega
      rcases low_cases l m k with hlo | ⟨p, hp, hlo⟩ <;> rcases high_cases l m k with hhi | ⟨q, hq, hhi⟩
      · rw [hlo, hhi]
        by_cases hx : l[k] ≤ m
        ·
          have hx2 : ¬ m < l[k] := (by omega)
          have HS := hide (show lowTo l m (k + 1) = (k : Int) from by rw [lowTo_succ hlt, hlo, if_pos ⟨hx, .inl (by omega)⟩])
          have HT := hide (show highTo l m (k + 1) = (-1 : Int) from by rw [highTo_succ hlt, hhi, if_neg (fun h => by have := h.1; omega)])
          clear hlo hhi
          have HX := hide (show decide (l[k] ≤ m) = true from by simp; omega)
          have HX2 := hide (show decide (m < l[k]) = false from by simp; omega)
          clear hx hx2
          go_wp2_with fail
          have hxx := HX.out
          have hxx2 := HX2.out
          go_quiet (fail)
          clear hxx hxx2
          go_wp2_with fail
          have hxx := HX.out
          have hxx2 := HX2.out
          go_quiet (fail)
          clear hxx hxx2
          go_wp2_with fail
          go_round
          case rel => exact ⟨k + 1, by omega, by go_num, by rw [HS.out], by rw [HT.out], ⟨_, by first | rfl | exact World.drewN_drewN⟩⟩
          case measure => simp [intOf]; omega
        ·
          have hx2 : m < l[k] := (by omega)
          have HS := hide (show lowTo l m (k + 1) = (-1 : Int) from by rw [lowTo_succ hlt, hlo, if_neg (fun h => hx h.1)])
          have HT := hide (show highTo l m (k + 1) = (k : Int) from by rw [highTo_succ hlt, hhi, if_pos ⟨by omega, .inl (by omega)⟩])
          clear hlo hhi
          have HX := hide (show decide (l[k] ≤ m) = false from by simp; omega)
          have HX2 := hide (show decide (m < l[k]) = true from by simp; omega)
          clear hx hx2
          go_wp2_with fail
          have hxx := HX.out
          have hxx2 := HX2.out
          go_quiet (fail)
          clear hxx hxx2
          go_wp2_with fail
          have hxx := HX.out
          have hxx2 := HX2.out
          go_quiet (fail)
          clear hxx hxx2
          go_wp2_with fail
          go_round
          case rel => exact ⟨k + 1, by omega, by go_num, by rw [HS.out], by rw [HT.out], ⟨_, by first | rfl | exact World.drewN_drewN⟩⟩
          case measure => simp [intOf]; omega
      · rw [hlo, hhi]
        have hql : q < l.length := by omega
        have q1 : (0 : Int) ≤ (q : Int) := by omega
        have q3 : ¬ (q : Int) < 0 := by omega
        have q2 : (q : Int) < (l.length : Int) := by omega
        obtain ⟨g2, off2, he2, hg2, hc2⟩ := R1.out.int hql
        injection he2 with he2
        injection he2 with he21 he22 _
        subst he21 he22
        by_cases hx : l[k] ≤ m
        ·
          have hx2 : ¬ m < l[k] := (by omega)
          have HS := hide (show lowTo l m (k + 1) = (k : Int) from by rw [lowTo_succ hlt, hlo, if_pos ⟨hx, .inl (by omega)⟩])
          have HT := hide (show highTo l m (k + 1) = (q : Int) from by rw [highTo_succ hlt, hhi, if_neg (fun h => by have := h.1; omega)])
          clear hlo hhi
          have HX := hide (show decide (l[k] ≤ m) = true from by simp; omega)
          have HX2 := hide (show decide (m < l[k]) = false from by simp; omega)
          clear hx hx2
          go_wp2_with fail
          have hxx := HX.out
          have hxx2 := HX2.out
          go_quiet (fail)
          clear hxx hxx2
          go_wp2_with fail
          have hxx := HX.out
          have hxx2 := HX2.out
          go_quiet (fail)
          clear hxx hxx2
          go_wp2_with fail
          go_round
          case rel => exact ⟨k + 1, by omega, by go_num, by rw [HS.out], by rw [HT.out], ⟨_, by first | rfl | exact World.drewN_drewN⟩⟩
          case measure => simp [intOf]; omega
        · by_cases hy : l[k] < l[q]
          ·
            have hx2 : m < l[k] := (by omega)
            have HS := hide (show lowTo l m (k + 1) = (-1 : Int) from by rw [lowTo_succ hlt, hlo, if_neg (fun h => hx h.1)])
            have HT := hide (show highTo l m (k + 1) = (k : Int) from by rw [highTo_succ hlt, hhi, if_pos ⟨by omega, .inr (by rw [getD_at hql]; exact hy)⟩])
            clear hlo hhi
            have HX := hide (show decide (l[k] ≤ m) = false from by simp; omega)
            have HX2 := hide (show decide (m < l[k]) = true from by simp; omega)
            have HY := hide (show decide (l[k] < l[q]) = true from by exact decide_eq_true hy)
            clear hx hx2 hy
            go_wp2_with fail
            have hxx := HX.out
            have hxx2 := HX2.out
            have hyy := HY.out
            go_quiet (fail)
            clear hxx hxx2 hyy
            go_wp2_with fail
            have hxx := HX.out
            have hxx2 := HX2.out
            have hyy := HY.out
            go_quiet (fail)
            clear hxx hxx2 hyy
            go_wp2_with fail
            go_round
            case rel => exact ⟨k + 1, by omega, by go_num, by rw [HS.out], by rw [HT.out], ⟨_, by first | rfl | exact World.drewN_drewN⟩⟩
            case measure => simp [intOf]; omega
          ·
            have hx2 : m < l[k] := (by omega)
            have HS := hide (show lowTo l m (k + 1) = (-1 : Int) from by rw [lowTo_succ hlt, hlo, if_neg (fun h => hx h.1)])
            have HT := hide (show highTo l m (k + 1) = (q : Int) from by rw [highTo_succ hlt, hhi, if_neg (fun h => h.2.elim (fun h => by omega) (fun h => hy (by rw [getD_at hql] at h; exact h)))])
            clear hlo hhi
            have HX := hide (show decide (l[k] ≤ m) = false from by simp; omega)
            have HX2 := hide (show decide (m < l[k]) = true from by simp; omega)
            have HY := hide (show decide (l[k] < l[q]) = false from by exact decide_eq_false hy)
            clear hx hx2 hy
            go_wp2_with fail
            have hxx := HX.out
            have hxx2 := HX2.out
            have hyy := HY.out
            go_quiet (fail)
            clear hxx hxx2 hyy
            go_wp2_with fail
            have hxx := HX.out
            have hxx2 := HX2.out
            have hyy := HY.out
            go_quiet (fail)
            clear hxx hxx2 hyy
            go_wp2_with fail
            go_round
            case rel => exact ⟨k + 1, by omega, by go_num, by rw [HS.out], by rw [HT.out], ⟨_, by first | rfl | exact World.drewN_drewN⟩⟩
            case measure => simp [intOf]; omega
      · rw [hlo, hhi]
        have hpl : p < l.length := by omega
        have p1 : (0 : Int) ≤ (p : Int) := by omega
        have p3 : ¬ (p : Int) < 0 := by omega
        have p2 : (p : Int) < (l.length : Int) := by omega
        obtain ⟨g1, off1, he1, hg1, hc1⟩ := R1.out.int hpl
        injection he1 with he1
        injection he1 with he11 he12 _
        subst he11 he12
        by_cases hx : l[k] ≤ m
        · by_cases hy : l[p] < l[k]
          ·
            have hx2 : ¬ m < l[k] := (by omega)
            have HS := hide (show lowTo l m (k + 1) = (k : Int) from by rw [lowTo_succ hlt, hlo, if_pos ⟨hx, .inr (by rw [getD_at hpl]; exact hy)⟩])
            have HT := hide (show highTo l m (k + 1) = (-1 : Int) from by rw [highTo_succ hlt, hhi, if_neg (fun h => by have := h.1; omega)])
            clear hlo hhi
            have HX := hide (show decide (l[k] ≤ m) = true from by simp; omega)
            have HX2 := hide (show decide (m < l[k]) = false from by simp; omega)
            have HY := hide (show decide (l[p] < l[k]) = true from by exact decide_eq_true hy)
            clear hx hx2 hy
            go_wp2_with fail
            have hxx := HX.out
            have hxx2 := HX2.out
            have hyy := HY.out
            go_quiet (fail)
            clear hxx hxx2 hyy
            go_wp2_with fail
            have hxx := HX.out
            have hxx2 := HX2.out
            have hyy := HY.out
            go_quiet (fail)
            clear hxx hxx2 hyy
            go_wp2_with fail
            go_round
            case rel => exact ⟨k + 1, by omega, by go_num, by rw [HS.out], by rw [HT.out], ⟨_, by first | rfl | exact World.drewN_drewN⟩⟩
            case measure => simp [intOf]; omega
          ·
            have hx2 : ¬ m < l[k] := (by omega)
            have HS := hide (show lowTo l m (k + 1) = (p : Int) from by rw [lowTo_succ hlt, hlo, if_neg (fun h => h.2.elim (fun h => by omega) (fun h => hy (by rw [getD_at hpl] at h; exact h)))])
            have HT := hide (show highTo l m (k + 1) = (-1 : Int) from by rw [highTo_succ hlt, hhi, if_neg (fun h => by have := h.1; omega)])
            clear hlo hhi
            have HX := hide (show decide (l[k] ≤ m) = true from by simp; omega)
            have HX2 := hide (show decide (m < l[k]) = false from by simp; omega)
            have HY := hide (show decide (l[p] < l[k]) = false from by exact decide_eq_false hy)
            clear hx hx2 hy
            go_wp2_with fail
            have hxx := HX.out
            have hxx2 := HX2.out
            have hyy := HY.out
            go_quiet (fail)
            clear hxx hxx2 hyy
            go_wp2_with fail
            have hxx := HX.out
            have hxx2 := HX2.out
            have hyy := HY.out
            go_quiet (fail)
            clear hxx hxx2 hyy
            go_wp2_with fail
            go_round
            case rel => exact ⟨k + 1, by omega, by go_num, by rw [HS.out], by rw [HT.out], ⟨_, by first | rfl | exact World.drewN_drewN⟩⟩
            case measure => simp [intOf]; omega
        ·
          have hx2 : m < l[k] := (by omega)
          have HS := hide (show lowTo l m (k + 1) = (p : Int) from by rw [lowTo_succ hlt, hlo, if_neg (fun h => hx h.1)])
          have HT := hide (show highTo l m (k + 1) = (k : Int) from by rw [highTo_succ hlt, hhi, if_pos ⟨by omega, .inl (by omega)⟩])
          clear hlo hhi
          have HX := hide (show decide (l[k] ≤ m) = false from by simp; omega)
          have HX2 := hide (show decide (m < l[k]) = true from by simp; omega)
          clear hx hx2
          go_wp2_with fail
          have hxx := HX.out
          have hxx2 := HX2.out
          go_quiet (fail)
          clear hxx hxx2
          go_wp2_with fail
          have hxx := HX.out
          have hxx2 := HX2.out
          go_quiet (fail)
          clear hxx hxx2
          go_wp2_with fail
          go_round
          case rel => exact ⟨k + 1, by omega, by go_num, by rw [HS.out], by rw [HT.out], ⟨_, by first | rfl | exact World.drewN_drewN⟩⟩
          case measure => simp [intOf]; omega
      · rw [hlo, hhi]
        have hpl : p < l.length := by omega
        have p1 : (0 : Int) ≤ (p : Int) := by omega
        have p3 : ¬ (p : Int) < 0 := by omega
        have p2 : (p : Int) < (l.length : Int) := by omega
        obtain ⟨g1, off1, he1, hg1, hc1⟩ := R1.out.int hpl
        injection he1 with he1
        injection he1 with he11 he12 _
        subst he11 he12
        have hql : q < l.length := by omega
        have q1 : (0 : Int) ≤ (q : Int) := by omega
        have q3 : ¬ (q : Int) < 0 := by omega
        have q2 : (q : Int) < (l.length : Int) := by omega
        obtain ⟨g2, off2, he2, hg2, hc2⟩ := R1.out.int hql
        injection he2 with he2
        injection he2 with he21 he22 _
        subst he21 he22
        by_cases hx : l[k] ≤ m
        · by_cases hy : l[p] < l[k]
          ·
            have hx2 : ¬ m < l[k] := (by omega)
            have HS := hide (show lowTo l m (k + 1) = (k : Int) from by rw [lowTo_succ hlt, hlo, if_pos ⟨hx, .inr (by rw [getD_at hpl]; exact hy)⟩])
            have HT := hide (show highTo l m (k + 1) = (q : Int) from by rw [highTo_succ hlt, hhi, if_neg (fun h => by have := h.1; omega)])
            clear hlo hhi
            have HX := hide (show decide (l[k] ≤ m) = true from by simp; omega)
            have HX2 := hide (show decide (m < l[k]) = false from by simp; omega)
            have HY := hide (show decide (l[p] < l[k]) = true from by exact decide_eq_true hy)
            clear hx hx2 hy
            go_wp2_with fail
            have hxx := HX.out
            have hxx2 := HX2.out
            have hyy := HY.out
            go_quiet (fail)
            clear hxx hxx2 hyy
            go_wp2_with fail
            have hxx := HX.out
            have hxx2 := HX2.out
            have hyy := HY.out
            go_quiet (fail)
            clear hxx hxx2 hyy
            go_wp2_with fail
            go_round
            case rel => exact ⟨k + 1, by omega, by go_num, by rw [HS.out], by rw [HT.out], ⟨_, by first | rfl | exact World.drewN_drewN⟩⟩
            case measure => simp [intOf]; omega
          ·
            have hx2 : ¬ m < l[k] := (by omega)
            have HS := hide (show lowTo l m (k + 1) = (p : Int) from by rw [lowTo_succ hlt, hlo, if_neg (fun h => h.2.elim (fun h => by omega) (fun h => hy (by rw [getD_at hpl] at h; exact h)))])
            have HT := hide (show highTo l m (k + 1) = (q : Int) from by rw [highTo_succ hlt, hhi, if_neg (fun h => by have := h.1; omega)])
            clear hlo hhi
            have HX := hide (show decide (l[k] ≤ m) = true from by simp; omega)
            have HX2 := hide (show decide (m < l[k]) = false from by simp; omega)
            have HY := hide (show decide (l[p] < l[k]) = false from by exact decide_eq_false hy)
            clear hx hx2 hy
            go_wp2_with fail
            have hxx := HX.out
            have hxx2 := HX2.out
            have hyy := HY.out
            go_quiet (fail)
            clear hxx hxx2 hyy
            go_wp2_with fail
            have hxx := HX.out
            have hxx2 := HX2.out
            have hyy := HY.out
            go_quiet (fail)
            clear hxx hxx2 hyy
            go_wp2_with fail
            go_round
            case rel => exact ⟨k + 1, by omega, by go_num, by rw [HS.out], by rw [HT.out], ⟨_, by first | rfl | exact World.drewN_drewN⟩⟩
            case measure => simp [intOf]; omega
        · by_cases hy : l[k] < l[q]
          ·
            have hx2 : m < l[k] := (by omega)
            have HS := hide (show lowTo l m (k + 1) = (p : Int) from by rw [lowTo_succ hlt, hlo, if_neg (fun h => hx h.1)])
            have HT := hide (show highTo l m (k + 1) = (k : Int) from by rw [highTo_succ hlt, hhi, if_pos ⟨by omega, .inr (by rw [getD_at hql]; exact hy)⟩])
            clear hlo hhi
            have HX := hide (show decide (l[k] ≤ m) = false from by simp; omega)
            have HX2 := hide (show decide (m < l[k]) = true from by simp; omega)
            have HY := hide (show decide (l[k] < l[q]) = true from by exact decide_eq_true hy)
            clear hx hx2 hy
            go_wp2_with fail
            have hxx := HX.out
            have hxx2 := HX2.out
            have hyy := HY.out
            go_quiet (fail)
            clear hxx hxx2 hyy
            go_wp2_with fail
            have hxx := HX.out
            have hxx2 := HX2.out
            have hyy := HY.out
            go_quiet (fail)
            clear hxx hxx2 hyy
            go_wp2_with fail
            go_round
            case rel => exact ⟨k + 1, by omega, by go_num, by rw [HS.out], by rw [HT.out], ⟨_, by first | rfl | exact World.drewN_drewN⟩⟩
            case measure => simp [intOf]; omega
          ·
            have hx2 : m < l[k] := (by omega)
            have HS := hide (show lowTo l m (k + 1) = (p : Int) from by rw [lowTo_succ hlt, hlo, if_neg (fun h => hx h.1)])
            have HT := hide (show highTo l m (k + 1) = (q : Int) from by rw [highTo_succ hlt, hhi, if_neg (fun h => h.2.elim (fun h => by omega) (fun h => hy (by rw [getD_at hql] at h; exact h)))])
            clear hlo hhi
            have HX := hide (show decide (l[k] ≤ m) = false from by simp; omega)
            have HX2 := hide (show decide (m < l[k]) = true from by simp; omega)
            have HY := hide (show decide (l[k] < l[q]) = false from by exact decide_eq_false hy)
            clear hx hx2 hy
            go_wp2_with fail
            have hxx := HX.out
            have hxx2 := HX2.out
            have hyy := HY.out
            go_quiet (fail)
            clear hxx hxx2 hyy
            go_wp2_with fail
            have hxx := HX.out
            have hxx2 := HX2.out
            have hyy := HY.out
            go_quiet (fail)
            clear hxx hxx2 hyy
            go_wp2_with fail
            go_round
            case rel => exact ⟨k + 1, by omega, by go_num, by rw [HS.out], by rw [HT.out], ⟨_, by first | rfl | exact World.drewN_drewN⟩⟩
            case measure => simp [intOf]; omega
    · obtain rfl : k = l.length := by omega
      rcases low_cases l m l.length with hlo | ⟨p, hp, hlo⟩ <;> rcases high_cases l m l.length with hhi | ⟨q, hq, hhi⟩
      · rw [hlo, hhi]
        have P1 := hide (show pairOf l m = (0, 0, 3) from by unfold pairOf; rw [if_pos ⟨h1, h2⟩, hlo, hhi]; simp)
        clear hlo hhi
        (go_wp2_with fail; repeat (go_quiet (fail); go_wp2_with fail))
        go_ret3
        exact ⟨ret3 (by rw [P1.out]), (by repeat (first | exact Below.refl _ _ | assumption | refine Below.drew ?_ | refine below_drewN ?_ _ | refine Below.alloc ?_ (by first | omega | (simp; done) | (simp; omega)) _ | refine Below.setCell ?_ (by first | omega | (simp; done) | (simp; omega)) _ | refine Below.trans ?_ (Below.mono (by assumption) (by first | omega | (simp; done) | (simp; omega)))))⟩
      · rw [hlo, hhi]
        have P1 := hide (show pairOf l m = (0, 0, 3) from by unfold pairOf; rw [if_pos ⟨h1, h2⟩, hlo, hhi]; simp)
        clear hlo hhi
        (go_wp2_with fail; repeat (go_quiet (fail); go_wp2_with fail))
        go_ret3
        exact ⟨ret3 (by rw [P1.out]), (by repeat (first | exact Below.refl _ _ | assumption | refine Below.drew ?_ | refine below_drewN ?_ _ | refine Below.alloc ?_ (by first | omega | (simp; done) | (simp; omega)) _ | refine Below.setCell ?_ (by first | omega | (simp; done) | (simp; omega)) _ | refine Below.trans ?_ (Below.mono (by assumption) (by first | omega | (simp; done) | (simp; omega)))))⟩
      · rw [hlo, hhi]
        have P1 := hide (show pairOf l m = (0, 0, 3) from by unfold pairOf; rw [if_pos ⟨h1, h2⟩, hlo, hhi]; simp)
        clear hlo hhi
        (go_wp2_with fail; repeat (go_quiet (fail); go_wp2_with fail))
        go_ret3
        exact ⟨ret3 (by rw [P1.out]), (by repeat (first | exact Below.refl _ _ | assumption | refine Below.drew ?_ | refine below_drewN ?_ _ | refine Below.alloc ?_ (by first | omega | (simp; done) | (simp; omega)) _ | refine Below.setCell ?_ (by first | omega | (simp; done) | (simp; omega)) _ | refine Below.trans ?_ (Below.mono (by assumption) (by first | omega | (simp; done) | (simp; omega)))))⟩
      · rw [hlo, hhi]
        have P1 := hide (show pairOf l m = ((p : Int), (q : Int), 0) from by unfold pairOf; rw [if_pos ⟨h1, h2⟩, hlo, hhi]; simp)
        clear hlo hhi
        (go_wp2_with fail; repeat (go_quiet (fail); go_wp2_with fail))
        go_ret3
        exact ⟨ret3 (by rw [P1.out]), (by repeat (first | exact Below.refl _ _ | assumption | refine Below.drew ?_ | refine below_drewN ?_ _ | refine Below.alloc ?_ (by first | omega | (simp; done) | (simp; omega)) _ | refine Below.setCell ?_ (by first | omega | (simp; done) | (simp; omega)) _ | refine Below.trans ?_ (Below.mono (by assumption) (by first | omega | (simp; done) | (simp; omega)))))⟩
theorem intsC_end : True := trivial
end Go.Proofs.Ytjflebgaemgeeaa
