/-
  Contracts of the two functions that give the date of a day.
-/
import Derived.Test.YtbmjkimlpneidaaDayB
import Derived.Deep.LoopGhost
import Derived.Deep.RegionLaw
import Derived.Deep.RegionWith
namespace Go.Proofs.Ytbmjkimlpneidaa
open Go.RowKit Pl
set_option linter.unusedVariables false
set_option linter.unusedSimpArgs false
/-- A date and the code 0, or no date and the code 2. -/
def DateRes (day : Int) (w : World) (e : Ending) (w' : World) : Prop :=
  Below w.heap.size w w' ∧ ((inB day 0 100000 = false ∧ e = .returned (.tuple #[.agg #[.int .i64 0, .int .i64 0, .int .i64 0], .int .i64 2])) ∨
    (inB day 0 100000 = true ∧ ∃ y m d, IsDate day y m d ∧ e = .returned (.tuple #[.agg #[.int .i64 y, .int .i64 m, .int .i64 d], .int .i64 0])))
theorem impl_DateOf_no (day : Int) (w : World) (h : inB day 0 100000 = false) : Calls Try.prog 37 #[.int .i64 day] w (DateRes day w) := by
  go_enter Try.func37, Try.ntmps37
  go_wp2_with (go_at_call 46; refine (in_any _ _ _ _).mono ?_; rintro e w' ⟨rfl, rfl⟩)
  exact bodyPost_ret (v := .tuple #[.agg #[.int .i64 0, .int .i64 0, .int .i64 0], .int .i64 2]) (by simp [results, Try.results37, go_sem]) rfl ⟨(by repeat (first | exact Below.refl _ _ | assumption | refine Below.drew ?_ | refine below_drewN ?_ _ | refine Below.alloc ?_ (by first | omega | (simp; done) | (simp; omega)) _ | refine Below.setCell ?_ (by first | omega | (simp; done) | (simp; omega)) _ | refine Below.trans ?_ (Below.mono (by assumption) (by first | omega | (simp; done) | (simp; omega))))), .inl ⟨h, rfl⟩⟩
set_option maxHeartbeats 1000000 in
theorem impl_DateOf_yes (day : Int) (w : World) (h : inB day 0 100000 = true) : Calls Try.prog 37 #[.int .i64 day] w (DateRes day w) := by
  obtain ⟨d1, d2⟩ := inB_true h
  go_enter Try.func37, Try.ntmps37
  go_wp2_with (go_at_call 46; refine (in_any _ _ _ _).mono ?_; rintro e w' ⟨rfl, rfl⟩)
  go_loopw [0] (fun s wr => ∃ Y : Int, 2001 ≤ Y ∧ yst Y ≤ day ∧ s = .int .i64 (day - yst Y) ∧ wr = (w.alloc (.cells #[.int .i64 0, .int .i64 0, .int .i64 0] 43)).alloc (.cells #[.int .i64 Y, .int .i64 1, .int .i64 0] 43)) (fun s _ => (intOf s).toNat)
  case atStart => exact ⟨2001, by omega, by simp [yst]; omega, by simp [yst], rfl⟩
  case round =>
    obtain ⟨Y, hY, hY2, rfl, rfl⟩ := hrel
    obtain ⟨s1, s2⟩ : 0 ≤ yst Y ∧ Y ≤ 100000 := by unfold yst at hY2 ⊢; omega
    obtain ⟨y1, y2⟩ : 365 ≤ ydays Y ∧ ydays Y ≤ 366 := by have := ydays_01 Y; omega
    have hs := hide (yst_succ Y)
    by_cases hlt : ydays Y ≤ day - yst Y
    · go_wp2_with (go_at_call 63; refine (yearDays_any _ _ (by omega) (by omega)).mono ?_; rintro e w' ⟨rfl, rfl⟩)
      go_roundw
      case rel => exact ⟨Y + 1, by omega, by rw [hs.out]; omega, by rw [hs.out]; congr 1; omega, rfl⟩
      case measure => simp [intOf]; omega
    · go_wp2_with (go_at_call 63; refine (yearDays_any _ _ (by omega) (by omega)).mono ?_; rintro e w' ⟨rfl, rfl⟩)
      go_loopw [0] (fun s wr => ∃ j : Nat, j < 12 ∧ cum Y j ≤ day - yst Y ∧ s = .int .i64 (day - yst Y - cum Y j) ∧ wr = (w.alloc (.cells #[.int .i64 0, .int .i64 0, .int .i64 0] 43)).alloc (.cells #[.int .i64 Y, .int .i64 ((j : Int) + 1), .int .i64 0] 43)) (fun s _ => (intOf s).toNat)
      case atStart => exact ⟨0, by omega, by simp [cum]; omega, by simp [cum], rfl⟩
      case round =>
        obtain ⟨j, hj, hj2, rfl, rfl⟩ := hrel
        obtain ⟨m1, m2⟩ := mdays_bd Y ((j : Int) + 1)
        obtain ⟨c1, c2⟩ := cum_bd Y j
        have hc := hide (cum_succ Y j)
        have h12 := hide (cum_twelve Y)
        by_cases hlt2 : mdays Y ((j : Int) + 1) ≤ day - yst Y - cum Y j
        · have hj3 : j + 1 < 12 := by
            rcases Nat.lt_or_ge (j + 1) 12 with h0 | h0
            · exact h0
            · obtain rfl : j = 11 := by omega
              have a := hc.out; have b : cum Y (11 + 1) = ydays Y := h12.out; omega
          go_wp2_with (go_at_call 57; refine (monthDays_any _ _ _ (by omega) (by omega)).mono ?_; rintro e w' ⟨rfl, rfl⟩)
          go_roundw
          case rel => exact ⟨j + 1, by omega, by rw [hc.out]; omega, by rw [hc.out]; congr 1; omega, by simp⟩
          case measure => simp [intOf]; omega
        · have hD : IsDate day Y ((j : Int) + 1) (day - yst Y - cum Y j + 1) := by
            have a := hc.out; have b := hs.out
            have e1 : ((j : Int) + 1 - 1).toNat = j := by omega
            have e2 : ((j : Int) + 1).toNat = j + 1 := by omega
            exact ⟨by omega, by omega, by omega, by omega, by omega, by rw [e1]; omega, by rw [e2]; omega, by rw [e1]⟩
          have HD := hide hD
          clear hD
          go_wp2_with (go_at_call 57; refine (monthDays_any _ _ _ (by omega) (by omega)).mono ?_; rintro e w' ⟨rfl, rfl⟩)
          exact bodyPost_ret (v := .tuple #[.agg #[.int .i64 Y, .int .i64 ((j : Int) + 1), .int .i64 (day - yst Y - cum Y j + 1)], .int .i64 0]) (by simp [results, Try.results37, go_sem]) rfl ⟨(by repeat (first | exact Below.refl _ _ | assumption | refine Below.drew ?_ | refine below_drewN ?_ _ | refine Below.alloc ?_ (by first | omega | (simp; done) | (simp; omega)) _ | refine Below.setCell ?_ (by first | omega | (simp; done) | (simp; omega)) _ | refine Below.trans ?_ (Below.mono (by assumption) (by first | omega | (simp; done) | (simp; omega))))), .inr ⟨h, Y, _, _, HD.out, rfl⟩⟩
/-- The world of the reference's DateOf in its second loop: a blank result, and the date Y, M, D. -/
structure DW (w wr : World) (Y M D : Int) : Prop where
  bel : Below w.heap.size w wr
  sz : w.heap.size + 1 < wr.heap.size
  c0 : wr.cell? ⟨w.heap.size + 1, 0, none⟩ = some (.int .i64 Y)
  c1 : wr.cell? ⟨w.heap.size + 1, 1, none⟩ = some (.int .i64 M)
  c2 : wr.cell? ⟨w.heap.size + 1, 2, none⟩ = some (.int .i64 D)
  f1 : wr.frozen? ⟨w.heap.size + 1, 1, none⟩ = false
  f2 : wr.frozen? ⟨w.heap.size + 1, 2, none⟩ = false
  r0 : wr.cell? ⟨w.heap.size, 0, none⟩ = some (.int .i64 0)
  r1 : wr.cell? ⟨w.heap.size, 1, none⟩ = some (.int .i64 0)
  r2 : wr.cell? ⟨w.heap.size, 2, none⟩ = some (.int .i64 0)
  q0 : wr.frozen? ⟨w.heap.size, 0, none⟩ = false
  q1 : wr.frozen? ⟨w.heap.size, 1, none⟩ = false
  q2 : wr.frozen? ⟨w.heap.size, 2, none⟩ = false
theorem DW.below {w wr w1 : World} {Y M D : Int} (h : DW w wr Y M D) (hb : Below wr.heap.size wr w1) : DW w w1 Y M D := by
  have z := h.sz
  have z1 := hb.size
  have z0 := h.bel.size
  exact ⟨h.bel.trans (hb.mono z0), by omega, (hb.cell (p := ⟨w.heap.size + 1, 0, none⟩) z).trans h.c0, (hb.cell (p := ⟨w.heap.size + 1, 1, none⟩) z).trans h.c1, (hb.cell (p := ⟨w.heap.size + 1, 2, none⟩) z).trans h.c2,
    (hb.frozen (p := ⟨w.heap.size + 1, 1, none⟩) z).trans h.f1, (hb.frozen (p := ⟨w.heap.size + 1, 2, none⟩) z).trans h.f2,
    (hb.cell (p := ⟨w.heap.size, 0, none⟩) (by show w.heap.size < _; omega)).trans h.r0, (hb.cell (p := ⟨w.heap.size, 1, none⟩) (by show w.heap.size < _; omega)).trans h.r1, (hb.cell (p := ⟨w.heap.size, 2, none⟩) (by show w.heap.size < _; omega)).trans h.r2,
    (hb.frozen (p := ⟨w.heap.size, 0, none⟩) (by show w.heap.size < _; omega)).trans h.q0, (hb.frozen (p := ⟨w.heap.size, 1, none⟩) (by show w.heap.size < _; omega)).trans h.q1, (hb.frozen (p := ⟨w.heap.size, 2, none⟩) (by show w.heap.size < _; omega)).trans h.q2⟩
theorem DW.drew {w wr : World} {Y M D : Int} (h : DW w wr Y M D) : DW w wr.drew Y M D := h.below (Below.refl _ _).drew
theorem DW.setD {w wr : World} {Y M D D' : Int} (h : DW w wr Y M D) : DW w (wr.setCell ⟨w.heap.size + 1, 2, none⟩ (.int .i64 D')) Y M D' := by
  obtain ⟨bel, sz, c0, c1, c2, f1, f2, r0, r1, r2, q0, q1, q2⟩ := h
  refine ⟨bel.setCell (by show _ ≤ w.heap.size + 1; omega) _, by simpa [World.setCell] using sz, ?_, ?_, ?_, ?_, ?_, ?_, ?_, ?_, ?_, ?_, ?_⟩ <;> simp [go_sem, *]
theorem DW.setM {w wr : World} {Y M M' D : Int} (h : DW w wr Y M D) : DW w (wr.setCell ⟨w.heap.size + 1, 1, none⟩ (.int .i64 M')) Y M' D := by
  obtain ⟨bel, sz, c0, c1, c2, f1, f2, r0, r1, r2, q0, q1, q2⟩ := h
  refine ⟨bel.setCell (by show _ ≤ w.heap.size + 1; omega) _, by simpa [World.setCell] using sz, ?_, ?_, ?_, ?_, ?_, ?_, ?_, ?_, ?_, ?_, ?_⟩ <;> simp [go_sem, *]
theorem spec_DateOf_no (day : Int) (w : World) (h : inB day 0 100000 = false) : Calls Try.prog 36 #[.int .i64 day] w (DateRes day w) := by
  go_enter Try.func36, Try.ntmps36
  go_wp2_with (go_at_call 45; refine (l00In_any _ _ _ _).mono ?_; rintro e w' ⟨rfl, rfl⟩)
  exact bodyPost_ret (v := .tuple #[.agg #[.int .i64 0, .int .i64 0, .int .i64 0], .int .i64 2]) (by simp [results, Try.results36, go_sem]) rfl ⟨(by repeat (first | exact Below.refl _ _ | assumption | refine Below.drew ?_ | refine below_drewN ?_ _ | refine Below.alloc ?_ (by first | omega | (simp; done) | (simp; omega)) _ | refine Below.setCell ?_ (by first | omega | (simp; done) | (simp; omega)) _ | refine Below.trans ?_ (Below.mono (by assumption) (by first | omega | (simp; done) | (simp; omega))))), .inl ⟨h, rfl⟩⟩
set_option maxHeartbeats 1000000 in
theorem spec_DateOf_yes (day : Int) (w : World) (h : inB day 0 100000 = true) : Calls Try.prog 36 #[.int .i64 day] w (DateRes day w) := by
  obtain ⟨d1, d2⟩ := inB_true h
  have g0 := yst_guess day d1
  go_enter Try.func36, Try.ntmps36
  go_wp2_with (go_at_call 45; refine (l00In_any _ _ _ _).mono ?_; rintro e w' ⟨rfl, rfl⟩)
  go_loop [4] (fun s => ∃ Y : Int, 2001 ≤ Y ∧ yst Y ≤ day ∧ s = .int .i64 Y) (fun s => (100000 - intOf s).toNat)
  case atStart => exact ⟨2001 + day / 366, by omega, g0, rfl⟩
  case round =>
    clear g0
    obtain ⟨Y, hY, hY2, rfl⟩ := hrel
    obtain ⟨s1, s2⟩ : 0 ≤ yst Y ∧ Y ≤ 3000 := by unfold yst at hY2 ⊢; omega
    obtain ⟨y1, y2⟩ : 365 ≤ ydays Y ∧ ydays Y ≤ 366 := by have := ydays_01 Y; omega
    have hs := hide (yst_succ Y)
    by_cases hlt : yst (Y + 1) ≤ day
    · go_wp2_with (go_at_call 61; refine (l03Start_any _ _ (by omega) (by omega)).mono ?_; rintro e w' ⟨rfl, rfl⟩)
      go_round
      case rel => exact ⟨Y + 1, by omega, hlt, rfl⟩
      case measure => simp [intOf]; omega
    · have b1 : day - yst Y < ydays Y := by have := hs.out; omega
      go_wp2_with (go_at_call 61; refine (l03Start_any _ _ (by omega) (by omega)).mono ?_; rintro e w' ⟨rfl, rfl⟩)
      go_loopg [] 13 (fun k wr => ∃ j : Nat, k + j = 13 ∧ j < 12 ∧ cum Y j ≤ day - yst Y ∧ DW w wr Y ((j : Int) + 1) (day - yst Y + 1 - cum Y j))
      case atStart => 
        refine ⟨0, by omega, by omega, by simp [cum]; omega, ⟨(by repeat (first | exact Below.refl _ _ | assumption | refine Below.drew ?_ | refine below_drewN ?_ _ | refine Below.alloc ?_ (by first | omega | (simp; done) | (simp; omega)) _ | refine Below.setCell ?_ (by first | omega | (simp; done) | (simp; omega)) _ | refine Below.trans ?_ (Below.mono (by assumption) (by first | omega | (simp; done) | (simp; omega))))), by simp, ?_, ?_, ?_, ?_, ?_, ?_, ?_, ?_, ?_, ?_, ?_⟩⟩ <;> simp [cum]
      case round =>
        obtain ⟨j, hk, hj, hj2, hD⟩ := hrel
        obtain ⟨m1, m2⟩ := mdays_bd Y ((j : Int) + 1)
        obtain ⟨k1, k2⟩ := cum_bd Y j
        have hc := hide (cum_succ Y j)
        have h12 := hide (cum_twelve Y)
        have hk' := hide hk
        clear hk
        have HD := hide hD
        obtain ⟨_, z0, c0, c1, c2, f1, f2, r0, r1, r2, q0, q1, q2⟩ := hD
        by_cases hlt2 : mdays Y ((j : Int) + 1) < day - yst Y + 1 - cum Y j
        · go_wp2_with fail
          go_region_held3 (fun w' => w'.cell? ⟨w.heap.size + 1, 1, none⟩ = some (.int .i64 ((j : Int) + 1)) ∧ w'.cell? ⟨w.heap.size + 1, 2, none⟩ = some (.int .i64 (day - yst Y + 1 - cum Y j))) (go_keep)
            (first | (go_at_call 62; refine (l03Days_any _ _ _ (by omega) (by omega) (by omega) (by omega)).mono ?_; rintro e w1 ⟨rfl, hb1⟩; have D1 := HD.out.drew.below hb1; have d1 := D1.c1; have d2 := D1.c2))
          have D1 : DW w w1 Y ((j : Int) + 1) (day - yst Y + 1 - cum Y j) := by assumption
          have H1 := hide D1
          obtain ⟨_, z0', c0', c1', c2', f1', f2', r0', r1', r2', q0', q1', q2'⟩ := D1
          go_wp2_with fail
          go_region_with ((go_at_call 62; refine (l03Days_any _ _ _ (by omega) (by omega) (by omega) (by omega)).mono ?_; rintro e w2 ⟨rfl, hb2⟩; have D2 := H1.out.drew.below hb2; have d1 := D2.c1; have d2 := D2.c2; have d3 := D2.f2))
          all_goals
            have D2 : DW w w2 Y ((j : Int) + 1) (day - yst Y + 1 - cum Y j) := by assumption
            have H2 := hide D2
            obtain ⟨_, z0'', c0'', c1'', c2'', f1'', f2'', r0'', r1'', r2'', q0'', q1'', q2''⟩ := D2
            have hj3 : j + 1 < 12 := by
              rcases Nat.lt_or_ge (j + 1) 12 with h0 | h0
              · exact h0
              · obtain rfl : j = 11 := by omega
                have a := hc.out; have b : cum Y (11 + 1) = ydays Y := h12.out; omega
            go_wp2
            go_roundg (gk - 1)
            case measure => have := hk'.out; omega
            case rel =>
              have e := hc.out
              refine ⟨j + 1, by have := hk'.out; omega, hj3, by omega, ?_⟩
              rw [show ((j + 1 : Nat) : Int) + 1 = (j : Int) + 1 + 1 from by omega, show day - yst Y + 1 - cum Y (j + 1) = day - yst Y + 1 - cum Y j - mdays Y ((j : Int) + 1) from by omega]
              exact H2.out.setD.setM
        · have hI : IsDate day Y ((j : Int) + 1) (day - yst Y + 1 - cum Y j) := by
            have a := hc.out; have b := hs.out
            have e1 : ((j : Int) + 1 - 1).toNat = j := by omega
            have e2 : ((j : Int) + 1).toNat = j + 1 := by omega
            exact ⟨by omega, by omega, by omega, by omega, by omega, by rw [e1]; omega, by rw [e2]; omega, by rw [e1]; omega⟩
          have HI := hide hI
          clear hI
          go_wp2_with fail
          go_region_held3 (fun w' => w'.cell? ⟨w.heap.size + 1, 1, none⟩ = some (.int .i64 ((j : Int) + 1)) ∧ w'.cell? ⟨w.heap.size + 1, 2, none⟩ = some (.int .i64 (day - yst Y + 1 - cum Y j))) (go_keep)
            (first | (go_at_call 62; refine (l03Days_any _ _ _ (by omega) (by omega) (by omega) (by omega)).mono ?_; rintro e w1 ⟨rfl, hb1⟩; have D1 := HD.out.drew.below hb1; have d1 := D1.c1; have d2 := D1.c2))
          have D1 : DW w w1 Y ((j : Int) + 1) (day - yst Y + 1 - cum Y j) := by assumption
          have H1 := hide D1
          obtain ⟨b0', z0', c0', c1', c2', f1', f2', r0', r1', r2', q0', q1', q2'⟩ := D1
          go_wp2
          exact bodyPost_ret (v := .tuple #[.agg #[.int .i64 Y, .int .i64 ((j : Int) + 1), .int .i64 (day - yst Y + 1 - cum Y j)], .int .i64 0]) (by simp [results, Try.results36, go_sem, *]) rfl ⟨(by repeat (first | exact Below.refl _ _ | assumption | refine Below.drew ?_ | refine below_drewN ?_ _ | refine Below.alloc ?_ (by first | omega | (simp; done) | (simp; omega)) _ | refine Below.setCell ?_ (by first | omega | (simp; done) | (simp; omega)) _ | refine Below.trans ?_ (Below.mono (by assumption) (by first | omega | (simp; done) | (simp; omega))))), .inr ⟨h, Y, _, _, HI.out, rfl⟩⟩
theorem impl_DateOf_bad (day : Int) (w : World) (h : inB day 0 100000 = false) : Calls Try.prog 37 #[.int .i64 day] w fun e w' => e = .returned (.tuple #[.agg #[.int .i64 0, .int .i64 0, .int .i64 0], .int .i64 2]) ∧ Below w.heap.size w w' :=
  (impl_DateOf_no day w h).mono fun _ _ hq => by
    obtain ⟨hb, ⟨_, he⟩ | ⟨h', _⟩⟩ := hq
    · exact ⟨he, hb⟩
    · rw [h] at h'; cases h'
theorem impl_DateOf_good (day : Int) (w : World) (h : inB day 0 100000 = true) : Calls Try.prog 37 #[.int .i64 day] w fun e w' => ∃ y m d, IsDate day y m d ∧ e = .returned (.tuple #[.agg #[.int .i64 y, .int .i64 m, .int .i64 d], .int .i64 0]) ∧ Below w.heap.size w w' :=
  (impl_DateOf_yes day w h).mono fun _ _ hq => by
    obtain ⟨hb, ⟨h', _⟩ | ⟨_, y, m, d, hI, he⟩⟩ := hq
    · rw [h] at h'; cases h'
    · exact ⟨y, m, d, hI, he, hb⟩
theorem spec_DateOf_bad (day : Int) (w : World) (h : inB day 0 100000 = false) : Calls Try.prog 36 #[.int .i64 day] w fun e w' => e = .returned (.tuple #[.agg #[.int .i64 0, .int .i64 0, .int .i64 0], .int .i64 2]) ∧ Below w.heap.size w w' :=
  (spec_DateOf_no day w h).mono fun _ _ hq => by
    obtain ⟨hb, ⟨_, he⟩ | ⟨h', _⟩⟩ := hq
    · exact ⟨he, hb⟩
    · rw [h] at h'; cases h'
theorem spec_DateOf_good (day : Int) (w : World) (h : inB day 0 100000 = true) : Calls Try.prog 36 #[.int .i64 day] w fun e w' => ∃ y m d, IsDate day y m d ∧ e = .returned (.tuple #[.agg #[.int .i64 y, .int .i64 m, .int .i64 d], .int .i64 0]) ∧ Below w.heap.size w w' :=
  (spec_DateOf_yes day w h).mono fun _ _ hq => by
    obtain ⟨hb, ⟨h', _⟩ | ⟨_, y, m, d, hI, he⟩⟩ := hq
    · rw [h] at h'; cases h'
    · exact ⟨y, m, d, hI, he, hb⟩
theorem dayC_end : True := trivial
end Go.Proofs.Ytbmjkimlpneidaa
