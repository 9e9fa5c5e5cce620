/-
  Contracts: estimates chosen from a list.
-/
import Derived.Test.YtldgelkgobocdaaFilt
import Derived.Test.YtldgelkgobocdaaValE
import Derived.Test.YtldgelkgobocdaaNum
import Derived.Test.YtldgelkgobocdaaRecE
import Derived.Test.YtldgelkgobocdaaOfObs
import Derived.Test.YtldgelkgobocdaaKp
import Derived.Deep.QuietTactic
import Derived.BigQuiet
import Derived.OwnWalk
import Derived.Laws.AppendOwn
import Derived.Outline
namespace Go.Proofs.Ytldgelkgobocdaa
open Go.RowKit Pl
set_option linter.unusedVariables false
set_option linter.unusedSimpArgs false
def starQ (s : ByteArray) (a b : Int) (x : EstT) : Bool := (x.star.toList == s.toList) && inB x.time a b
def starOf (l : List EstT) (s : ByteArray) (a b : Int) : List EstT × Int := if validB estOk estLt 100 l = true then (if nameB s = true then (if inB a 0 10000000 = true then (if inB b 0 10000000 = true then (flt (starQ s a b) l l.length, 0) else ([], 2)) else ([], 2)) else ([], 2)) else ([], 1)
theorem starOf_le (l : List EstT) (s : ByteArray) (a : Int) (b : Int) : (starOf l s a b).1.length ≤ l.length := by
  unfold starOf
  repeat' split
  all_goals first | exact flt_le | simp
theorem cloOfStar_any {time : Int} {star obs : ByteArray} {mag : Int} {fain : Bool} (s : ByteArray) (a : Int) (b : Int) (g1 g2 g3 : Nat) (w : World) (r : Bool) (hq : ((star.toList == s.toList) && inB time a b) = r) (h1 : w.cell? ⟨g1, 0, none⟩ = some (.string s)) (h2 : w.cell? ⟨g2, 0, none⟩ = some (.int .i64 a)) (h3 : w.cell? ⟨g3, 0, none⟩ = some (.int .i64 b)) :
    Calls Try.prog 101 #[.agg #[.int .i64 time, .string star, .string obs, .int .i64 mag, .bool fain], .pointer (some ⟨g1, 0, none⟩), .pointer (some ⟨g2, 0, none⟩), .pointer (some ⟨g3, 0, none⟩)] w fun e w' => e = .returned (.bool r) ∧ Below w.heap.size w w' := by
  cases hs : (star.toList == s.toList)
  · rw [hs, Bool.false_and] at hq
    subst hq
    have k5 := ((Below.alloc (Below.refl w.heap.size w) (Nat.le_refl _) (.cells #[.int .i64 time, .string star, .string obs, .int .i64 mag, .bool fain] 49)).cell (p := ⟨g1, 0, none⟩) (World.block_lt_of_cell? w _ h1)).trans h1
    have k6 := ((Below.alloc (Below.refl w.heap.size w) (Nat.le_refl _) (.cells #[.int .i64 time, .string star, .string obs, .int .i64 mag, .bool fain] 49)).cell (p := ⟨g2, 0, none⟩) (World.block_lt_of_cell? w _ h2)).trans h2
    have k7 := ((Below.alloc (Below.refl w.heap.size w) (Nat.le_refl _) (.cells #[.int .i64 time, .string star, .string obs, .int .i64 mag, .bool fain] 49)).cell (p := ⟨g3, 0, none⟩) (World.block_lt_of_cell? w _ h3)).trans h3
    go_enter Try.func101, Try.ntmps101
    go_wp2
    go_ret
    exact ⟨rfl, (by repeat (first | exact Below.refl _ _ | assumption | refine Below.drew ?_ | refine below_drewN ?_ _ | refine Below.alloc ?_ (by first | omega | (simp; done) | (simp; omega)) _ | refine Below.setCell ?_ (by first | omega | (simp; done) | (simp; omega)) _ | refine Below.trans ?_ (Below.mono (by assumption) (by first | omega | (simp; done) | (simp; omega)))))⟩
  · rw [hs, Bool.true_and] at hq
    have HI := hide hq
    clear hq
    have k5 := ((Below.alloc (Below.refl w.heap.size w) (Nat.le_refl _) (.cells #[.int .i64 time, .string star, .string obs, .int .i64 mag, .bool fain] 49)).cell (p := ⟨g1, 0, none⟩) (World.block_lt_of_cell? w _ h1)).trans h1
    have k6 := ((Below.alloc (Below.refl w.heap.size w) (Nat.le_refl _) (.cells #[.int .i64 time, .string star, .string obs, .int .i64 mag, .bool fain] 49)).cell (p := ⟨g2, 0, none⟩) (World.block_lt_of_cell? w _ h2)).trans h2
    have k7 := ((Below.alloc (Below.refl w.heap.size w) (Nat.le_refl _) (.cells #[.int .i64 time, .string star, .string obs, .int .i64 mag, .bool fain] 49)).cell (p := ⟨g3, 0, none⟩) (World.block_lt_of_cell? w _ h3)).trans h3
    go_enter Try.func101, Try.ntmps101
    go_wp2_with (go_at_call 80; refine (in_bit HI.out _).mono ?_; rintro e w' ⟨rfl, rfl⟩)
    go_ret
    exact ⟨rfl, (by repeat (first | exact Below.refl _ _ | assumption | refine Below.drew ?_ | refine below_drewN ?_ _ | refine Below.alloc ?_ (by first | omega | (simp; done) | (simp; omega)) _ | refine Below.setCell ?_ (by first | omega | (simp; done) | (simp; omega)) _ | refine Below.trans ?_ (Below.mono (by assumption) (by first | omega | (simp; done) | (simp; omega)))))⟩
set_option maxHeartbeats 2000000 in
set_option maxRecDepth 100000 in
theorem chosenOfStar_any (A : Option Addr) (c : Nat) (l : List EstT) (s : ByteArray) (a : Int) (b : Int) (g1 g2 g3 : Nat) (w : World) (hn : l.length ≤ 1048576) (h1 : w.cell? ⟨g1, 0, none⟩ = some (.string s)) (h2 : w.cell? ⟨g2, 0, none⟩ = some (.int .i64 a)) (h3 : w.cell? ⟨g3, 0, none⟩ = some (.int .i64 b)) (hr : Rd w w.heap.size 5 A l.length (l.flatMap EstT.cells)) :
    Calls Try.prog 97 #[.slice A l.length c, .func (.func 101) #[] #[.pointer (some ⟨g1, 0, none⟩), .pointer (some ⟨g2, 0, none⟩), .pointer (some ⟨g3, 0, none⟩)]] w fun e w' => ∃ A' c', e = .returned (.slice A' (flt (starQ s a b) l l.length).length c') ∧ Own w' w.heap.size 49 5 A' (flt (starQ s a b) l l.length).length c' ((flt (starQ s a b) l l.length).flatMap EstT.cells) ∧ Below w.heap.size w w' := by
  obtain ⟨i0, hi, hz0, hz1, hz2⟩ := info_parts info_Estimate
  obtain ⟨q, hq⟩ : ∃ q, q = (starQ s a b) := ⟨_, rfl⟩
  have HQ0 := hide hq
  rw [← hq]
  clear hq
  have HR := hide hr
  clear hr
  have zh1 := World.block_lt_of_cell? w _ h1
  have Hh1 := hide h1
  have zh2 := World.block_lt_of_cell? w _ h2
  have Hh2 := hide h2
  have zh3 := World.block_lt_of_cell? w _ h3
  have Hh3 := hide h3
  clear h1 h2 h3
  go_enter Try.func97, Try.ntmps97
  go_wp2_with fail
  go_loopw [5, 7, 11] (fun v x i wr => ∃ k : Nat, k ≤ l.length ∧ i = .int .i64 k ∧ Below w.heap.size w wr ∧ ∃ A' c', v = .slice A' (flt q l k).length c' ∧ Own wr w.heap.size 49 5 A' (flt q l k).length c' ((flt q l k).flatMap EstT.cells)) (fun _ _ i _ => l.length - (intOf i).toNat)
  case atStart => exact ⟨0, by omega, rfl, (Below.refl _ _).alloc (Nat.le_refl _) _, _, _, by rw [flt_zero]; rfl, by rw [flt_zero]; exact Own.empty_ _ _ _ (Nat.le_refl _)⟩
  case round =>
    obtain ⟨k, hk, rfl, hb, A', c', rfl, hown⟩ := hrel
    have Hb := hide hb
    have HW := hide hown
    clear hown
    by_cases hlt : k < l.length
    · have i1 : (0 : Int) ≤ (k : Int) := by omega
      have i2 : (k : Int) < (l.length : Int) := by omega
      obtain ⟨g, off, rfl, hg, hc⟩ := HR.out.elem EstT.cells_len hlt
      have f0 : wr.cell? ⟨g, off + k * 5, none⟩ = some (.int .i64 l[k].time) := (hb.cell (p := ⟨g, off + k * 5, none⟩) hg).trans (hc 0 _ rfl)
      have f1 : wr.cell? ⟨g, off + k * 5 + 1, none⟩ = some (.string l[k].star) := (hb.cell (p := ⟨g, off + k * 5 + 1, none⟩) hg).trans (hc 1 _ rfl)
      have f2 : wr.cell? ⟨g, off + k * 5 + 2, none⟩ = some (.string l[k].obs) := (hb.cell (p := ⟨g, off + k * 5 + 2, none⟩) hg).trans (hc 2 _ rfl)
      have f3 : wr.cell? ⟨g, off + k * 5 + 3, none⟩ = some (.int .i64 l[k].mag) := (hb.cell (p := ⟨g, off + k * 5 + 3, none⟩) hg).trans (hc 3 _ rfl)
      have f4 : wr.cell? ⟨g, off + k * 5 + 4, none⟩ = some (.bool l[k].fain) := (hb.cell (p := ⟨g, off + k * 5 + 4, none⟩) hg).trans (hc 4 _ rfl)
      have Ch1 := hide ((hb.cell (p := ⟨g1, 0, none⟩) zh1).trans Hh1.out)
      have Ch2 := hide ((hb.cell (p := ⟨g2, 0, none⟩) zh2).trans Hh2.out)
      have Ch3 := hide ((hb.cell (p := ⟨g3, 0, none⟩) zh3).trans Hh3.out)
      clear hc hb
      cases h3 : q l[k]
      · have HQ := hide (show (starQ s a b) l[k] = false from by rw [← HQ0.out]; exact h3)
        have HM := hide h3
        clear h3
        go_wp2_with fail
        refine (cloOfStar_any s a b g1 g2 g3 _ false HQ.out ?_ ?_ ?_).mono ?_
        · exact ((Below.alloc (Below.refl wr.heap.size wr) (Nat.le_refl _) _).cell (p := ⟨g1, 0, none⟩) (by have := Hb.out.size; simp; omega)).trans Ch1.out
        · exact ((Below.alloc (Below.refl wr.heap.size wr) (Nat.le_refl _) _).cell (p := ⟨g2, 0, none⟩) (by have := Hb.out.size; simp; omega)).trans Ch2.out
        · exact ((Below.alloc (Below.refl wr.heap.size wr) (Nat.le_refl _) _).cell (p := ⟨g3, 0, none⟩) (by have := Hb.out.size; simp; omega)).trans Ch3.out
        rintro e w1 ⟨rfl, hb1⟩
        obtain ⟨hcb, hfb⟩ := bcell hb1
        have hzx : wr.heap.size < w1.heap.size := by have := hb1.size; simp at this; omega
        have HV := hide ((HW.out.below (Below.alloc (Below.refl wr.heap.size wr) (Nat.le_refl _) _)).below hb1)
        have HB := hide (Hb.out.trans ((Below.alloc (Below.refl wr.heap.size wr) (Nat.le_refl _) _ |>.trans (hb1.mono (by simp))).mono Hb.out.size))
        clear hb1
        have HN := hide (flt_miss hlt HM.out)
        go_wp2
        go_roundw
        case rel => exact ⟨k + 1, by omega, by go_num, HB.out, A', c', by rw [HN.out], by rw [HN.out]; exact HV.out⟩
        case measure => simp [intOf]; omega
      · have HQ := hide (show (starQ s a b) l[k] = true from by rw [← HQ0.out]; exact h3)
        have HM := hide h3
        clear h3
        go_wp2_with fail
        refine (cloOfStar_any s a b g1 g2 g3 _ true HQ.out ?_ ?_ ?_).mono ?_
        · exact ((Below.alloc (Below.refl wr.heap.size wr) (Nat.le_refl _) _).cell (p := ⟨g1, 0, none⟩) (by have := Hb.out.size; simp; omega)).trans Ch1.out
        · exact ((Below.alloc (Below.refl wr.heap.size wr) (Nat.le_refl _) _).cell (p := ⟨g2, 0, none⟩) (by have := Hb.out.size; simp; omega)).trans Ch2.out
        · exact ((Below.alloc (Below.refl wr.heap.size wr) (Nat.le_refl _) _).cell (p := ⟨g3, 0, none⟩) (by have := Hb.out.size; simp; omega)).trans Ch3.out
        rintro e w1 ⟨rfl, hb1⟩
        obtain ⟨hcb, hfb⟩ := bcell hb1
        have hzx : wr.heap.size < w1.heap.size := by have := hb1.size; simp at this; omega
        have HV := hide ((HW.out.below (Below.alloc (Below.refl wr.heap.size wr) (Nat.le_refl _) _)).below hb1)
        have HB := hide (Hb.out.trans ((Below.alloc (Below.refl wr.heap.size wr) (Nat.le_refl _) _ |>.trans (hb1.mono (by simp))).mono Hb.out.size))
        clear hb1
        have HN := hide (flt_hit hlt HM.out)
        go_wp2_with (at_builtin; refine wpList_append_own _ rfl _ _ 52 rfl w.heap.size 49 i0 (.agg #[.int .i64 0, .string ⟨#[]⟩, .string ⟨#[]⟩, .int .i64 0, .bool false]) 5 56 Try.underlying52 hi hz0 hz1 hz2 rfl (by decide) _ _ _ rfl (HV.out.alloc _) ⟨w1.heap.size, 0, none⟩ 1 1 (EstT.cells l[k]) rfl rfl ?c1 ?c2 ?c3 ?c4 ?c5 ?_)
        case c1 => exact c1_new (us := EstT.cells l[k]) rfl
        case c2 => exact fun u hu => by simp only [EstT.cells, List.mem_cons, List.not_mem_nil, or_false] at hu; rcases hu with rfl | rfl | rfl | rfl | rfl <;> rfl
        case c3 => have := flt_le (q := q) (l := l) (n := k); unfold maxLen; omega
        case c4 => have := flt_le (q := q) (l := l) (n := k); omega
        case c5 => have := HB.out.size; simp; omega
        intro v' w9 hown' hgrow _
        have hlen : (flt q l k).length + 1 = (flt q l (k + 1)).length := by rw [HN.out]; simp
        obtain ⟨A2, c2, rfl, hown2⟩ := Own.more (zs := (flt q l (k + 1)).flatMap EstT.cells) hown' hlen (by rw [HN.out, List.flatMap_append]; simp)
        have HX := hide (And.intro hown2 hgrow)
        clear hown' hgrow hown2
        go_wp2
        go_roundw
        case rel =>
          obtain ⟨h1, h2⟩ := HX.out
          exact ⟨k + 1, by omega, by go_num, (HB.out.alloc HB.out.size _).grown h2 (by have := HB.out.size; simp; omega) (fun j hj => (HV.out.lt hj).1), A2, c2, rfl, h1⟩
        case measure => simp [intOf]; omega
    · obtain rfl : k = l.length := by omega
      clear hb
      go_wp2
      go_ret
      exact ⟨A', c', rfl, HW.out, Hb.out⟩
set_option maxHeartbeats 2000000 in
set_option maxRecDepth 100000 in
theorem spec_OfStar_any (A : Option Addr) (c : Nat) (l : List EstT) (s : ByteArray) (a : Int) (b : Int) (w : World) (hn : l.length ≤ 1048576) (hs : s.size ≤ maxLen) (hok : ∀ x ∈ l, x.ok) (hr : Rd w w.heap.size 5 A l.length (l.flatMap EstT.cells)) :
    Calls Try.prog 51 #[.slice A l.length c, .string s, .int .i64 a, .int .i64 b] w fun e w' => ∃ A' c', e = .returned (.tuple #[.slice A' (starOf l s a b).1.length c', .int .i64 (starOf l s a b).2]) ∧ Own w' w.heap.size 49 5 A' (starOf l s a b).1.length c' ((starOf l s a b).1.flatMap EstT.cells) ∧ Below w.heap.size w w' := by
  obtain ⟨i0, hi, hz0, hz1, hz2⟩ := info_parts info_Estimate
  have HR := hide hr
  have HO := hide hok
  clear hr hok
  cases h1 : validB estOk estLt 100 l
  · rw [show starOf l s a b = ([], 1) from by simp [starOf, h1]]
    go_enter Try.func51, Try.ntmps51
    go_wp2_with fail
    refine (l06Ok_any A c l _ hn HO.out HR.out).mono ?_
    rintro e w1 ⟨rfl, b⟩
    have B1 := hide b
    have R1 := hide ((HR.out.below b).more b.size)
    clear b
    go_wp2
    go_ret2
    exact ⟨none, 0, rfl, Own.none_, B1.out⟩
  cases h2 : nameB s
  · rw [show starOf l s a b = ([], 2) from by simp [starOf, h1, h2]]
    go_enter Try.func51, Try.ntmps51
    go_wp2_with fail
    refine (l06Ok_any A c l _ hn HO.out HR.out).mono ?_
    rintro e w1 ⟨rfl, b⟩
    have B1 := hide b
    have R1 := hide ((HR.out.below b).more b.size)
    clear b
    go_wp2_with (first | (go_at_call 84; refine (spec_IsName_any _ _ hs).mono ?_; rintro e w' ⟨rfl, rfl⟩) | (go_at_call 99; refine (spec_l06Time_any _ _).mono ?_; rintro e w' ⟨rfl, rfl⟩))
    go_ret2
    exact ⟨none, 0, rfl, Own.none_, B1.out⟩
  cases h3 : inB a 0 10000000
  · rw [show starOf l s a b = ([], 2) from by simp [starOf, h1, h2, h3]]
    go_enter Try.func51, Try.ntmps51
    go_wp2_with fail
    refine (l06Ok_any A c l _ hn HO.out HR.out).mono ?_
    rintro e w1 ⟨rfl, b⟩
    have B1 := hide b
    have R1 := hide ((HR.out.below b).more b.size)
    clear b
    go_wp2_with (first | (go_at_call 84; refine (spec_IsName_any _ _ hs).mono ?_; rintro e w' ⟨rfl, rfl⟩) | (go_at_call 99; refine (spec_l06Time_any _ _).mono ?_; rintro e w' ⟨rfl, rfl⟩))
    go_ret2
    exact ⟨none, 0, rfl, Own.none_, B1.out⟩
  cases h4 : inB b 0 10000000
  · rw [show starOf l s a b = ([], 2) from by simp [starOf, h1, h2, h3, h4]]
    go_enter Try.func51, Try.ntmps51
    go_wp2_with fail
    refine (l06Ok_any A c l _ hn HO.out HR.out).mono ?_
    rintro e w1 ⟨rfl, b⟩
    have B1 := hide b
    have R1 := hide ((HR.out.below b).more b.size)
    clear b
    go_wp2_with (first | (go_at_call 84; refine (spec_IsName_any _ _ hs).mono ?_; rintro e w' ⟨rfl, rfl⟩) | (go_at_call 99; refine (spec_l06Time_any _ _).mono ?_; rintro e w' ⟨rfl, rfl⟩))
    go_ret2
    exact ⟨none, 0, rfl, Own.none_, B1.out⟩
  rw [show starOf l s a b = (flt (starQ s a b) l l.length, 0) from by simp [starOf, h1, h2, h3, h4]]
  obtain ⟨q, hq⟩ : ∃ q, q = (starQ s a b) := ⟨_, rfl⟩
  have HQ0 := hide hq
  rw [← hq]
  clear hq
  go_enter Try.func51, Try.ntmps51
  go_wp2_with fail
  refine (l06Ok_any A c l _ hn HO.out HR.out).mono ?_
  rintro e w1 ⟨rfl, b⟩
  have B1 := hide b
  have R1 := hide ((HR.out.below b).more b.size)
  clear b
  go_wp2_with (first | (go_at_call 84; refine (spec_IsName_any _ _ hs).mono ?_; rintro e w' ⟨rfl, rfl⟩) | (go_at_call 99; refine (spec_l06Time_any _ _).mono ?_; rintro e w' ⟨rfl, rfl⟩))
  go_loopw [10, 11] (fun v i wr => ∃ k : Nat, k ≤ l.length ∧ i = .int .i64 k ∧ Below w1.heap.size w1 wr ∧ ∃ A' c', v = .slice A' (flt q l k).length c' ∧ Own wr w1.heap.size 49 5 A' (flt q l k).length c' ((flt q l k).flatMap EstT.cells)) (fun _ i _ => l.length - (intOf i).toNat)
  case atStart => exact ⟨0, by omega, rfl, (Below.refl _ _).alloc (Nat.le_refl _) _, _, _, by rw [flt_zero]; rfl, by rw [flt_zero]; exact Own.empty_ _ _ _ (Nat.le_refl _)⟩
  case round =>
    obtain ⟨k, hk, rfl, hb, A', c', rfl, hown⟩ := hrel
    have HB := hide hb
    have HV := hide hown
    clear hown
    by_cases hlt : k < l.length
    · have i1 : (0 : Int) ≤ (k : Int) := by omega
      have i2 : (k : Int) < (l.length : Int) := by omega
      obtain ⟨g, off, rfl, hg, hc⟩ := R1.out.elem EstT.cells_len hlt
      have f0 : wr.cell? ⟨g, off + k * 5, none⟩ = some (.int .i64 l[k].time) := (hb.cell (p := ⟨g, off + k * 5, none⟩) hg).trans (hc 0 _ rfl)
      have f1 : wr.cell? ⟨g, off + k * 5 + 1, none⟩ = some (.string l[k].star) := (hb.cell (p := ⟨g, off + k * 5 + 1, none⟩) hg).trans (hc 1 _ rfl)
      have f2 : wr.cell? ⟨g, off + k * 5 + 2, none⟩ = some (.string l[k].obs) := (hb.cell (p := ⟨g, off + k * 5 + 2, none⟩) hg).trans (hc 2 _ rfl)
      have f3 : wr.cell? ⟨g, off + k * 5 + 3, none⟩ = some (.int .i64 l[k].mag) := (hb.cell (p := ⟨g, off + k * 5 + 3, none⟩) hg).trans (hc 3 _ rfl)
      have f4 : wr.cell? ⟨g, off + k * 5 + 4, none⟩ = some (.bool l[k].fain) := (hb.cell (p := ⟨g, off + k * 5 + 4, none⟩) hg).trans (hc 4 _ rfl)
      clear hc hb
      cases h3 : q l[k]
      · have HQ := hide (show (starQ s a b) l[k] = false from by rw [← HQ0.out]; exact h3)
        have HM := hide h3
        clear h3
        cases hq2 : (l[k].star.toList == s.toList)
        ·
          have HN := hide (flt_miss hlt HM.out)
          go_wp2
          go_roundw
          case rel => exact ⟨k + 1, by omega, by go_num, HB.out, A', c', by rw [HN.out], by rw [HN.out]; exact HV.out⟩
          case measure => simp [intOf]; omega
        · have HI := hide (show inB l[k].time a b = false from by have h := HQ.out; simp only [starQ, hq2, Bool.true_and] at h; exact h)
          have HN := hide (flt_miss hlt HM.out)
          go_wp2_with (go_at_call 77; refine (l00In_bit HI.out _).mono ?_; rintro e w' ⟨rfl, rfl⟩)
          go_roundw
          case rel => exact ⟨k + 1, by omega, by go_num, HB.out, A', c', by rw [HN.out], by rw [HN.out]; exact HV.out⟩
          case measure => simp [intOf]; omega
      · have HQ := hide (show (starQ s a b) l[k] = true from by rw [← HQ0.out]; exact h3)
        have HM := hide h3
        clear h3
        have hq0 : (l[k].star.toList == s.toList) = true ∧ inB l[k].time a b = true := Bool.and_eq_true_iff.1 HQ.out
        have hq2 := hq0.1
        have HI := hide hq0.2
        clear hq0
        have HN := hide (flt_hit hlt HM.out)
        go_wp2_with (first | (go_at_call 77; refine (l00In_bit HI.out _).mono ?_; rintro e w' ⟨rfl, rfl⟩) | (at_builtin; refine wpList_append_own _ rfl _ _ 52 rfl w1.heap.size 49 i0 (.agg #[.int .i64 0, .string ⟨#[]⟩, .string ⟨#[]⟩, .int .i64 0, .bool false]) 5 56 Try.underlying52 hi hz0 hz1 hz2 rfl (by decide) _ _ _ rfl (HV.out.alloc _) ⟨wr.heap.size, 0, none⟩ 1 1 (EstT.cells l[k]) rfl rfl ?c1 ?c2 ?c3 ?c4 ?c5 ?_))
        case c1 => exact c1_new (us := EstT.cells l[k]) rfl
        case c2 => exact fun u hu => by simp only [EstT.cells, List.mem_cons, List.not_mem_nil, or_false] at hu; rcases hu with rfl | rfl | rfl | rfl | rfl <;> rfl
        case c3 => have := flt_le (q := q) (l := l) (n := k); unfold maxLen; omega
        case c4 => have := flt_le (q := q) (l := l) (n := k); omega
        case c5 => have := HB.out.size; simp; omega
        intro v' w9 hown' hgrow _
        have hlen : (flt q l k).length + 1 = (flt q l (k + 1)).length := by rw [HN.out]; simp
        obtain ⟨A2, c2, rfl, hown2⟩ := Own.more (zs := (flt q l (k + 1)).flatMap EstT.cells) hown' hlen (by rw [HN.out, List.flatMap_append]; simp)
        have HX := hide (And.intro hown2 hgrow)
        clear hown' hgrow hown2
        go_wp2
        go_roundw
        case rel =>
          obtain ⟨h1, h2⟩ := HX.out
          exact ⟨k + 1, by omega, by go_num, (HB.out.alloc HB.out.size _).grown h2 (by have := HB.out.size; simp; omega) (fun j hj => (HV.out.lt hj).1), A2, c2, rfl, h1⟩
        case measure => simp [intOf]; omega
    · obtain rfl : k = l.length := by omega
      clear hb
      go_wp2
      go_ret2
      exact ⟨A', c', rfl, HV.out.base B1.out.size, B1.out.trans (HB.out.mono B1.out.size)⟩
set_option maxHeartbeats 2000000 in
set_option maxRecDepth 100000 in
theorem impl_OfStar_any (A : Option Addr) (c : Nat) (l : List EstT) (s : ByteArray) (a : Int) (b : Int) (w : World) (hn : l.length ≤ 1048576) (hs : s.size ≤ maxLen) (hok : ∀ x ∈ l, x.ok) (hr : Rd w w.heap.size 5 A l.length (l.flatMap EstT.cells)) :
    Calls Try.prog 52 #[.slice A l.length c, .string s, .int .i64 a, .int .i64 b] w fun e w' => ∃ A' c', e = .returned (.tuple #[.slice A' (starOf l s a b).1.length c', .int .i64 (starOf l s a b).2]) ∧ Own w' w.heap.size 49 5 A' (starOf l s a b).1.length c' ((starOf l s a b).1.flatMap EstT.cells) ∧ Below w.heap.size w w' := by
  obtain ⟨i0, hi, hz0, hz1, hz2⟩ := info_parts info_Estimate
  have HR := hide hr
  have HO := hide hok
  clear hr hok
  have K0 : Kp w [(⟨w.heap.size, 0, none⟩, .string s), (⟨w.heap.size + 1, 0, none⟩, .int .i64 a), (⟨w.heap.size + 2, 0, none⟩, .int .i64 b)] (((w.alloc (.cells #[.string s] 9)).alloc (.cells #[.int .i64 a] 2)).alloc (.cells #[.int .i64 b] 2)) := ⟨(((Below.refl _ _).alloc (Nat.le_refl _) _).alloc (by simp) _).alloc (by simp; omega) _, fun p hp => by
    simp only [List.mem_cons, List.not_mem_nil, or_false] at hp
    rcases hp with rfl | rfl | rfl
    all_goals refine ⟨?_, ?_⟩ <;> simp [go_sem] <;> omega⟩
  cases h1 : validB estOk estLt 100 l
  · rw [show starOf l s a b = ([], 1) from by simp [starOf, h1]]
    go_enter Try.func52, Try.ntmps52
    go_wp2_with fail
    refine (impl_ValidEstimates_any A c l _ hn HO.out ((HR.out.below K0.b).more K0.b.size)).mono ?_
    rintro e w1 ⟨rfl, b⟩
    have K1 := K0.below b
    have k0 := K1.at0
    have k1 := K1.at1
    have k2 := K1.at2
    have B1 := hide K1.b
    have R1 := hide ((HR.out.below K1.b).more K1.b.size)
    clear b K0
    go_wp2
    go_ret2
    exact ⟨none, 0, rfl, Own.none_, B1.out⟩
  cases h2 : nameB s
  · rw [show starOf l s a b = ([], 2) from by simp [starOf, h1, h2]]
    go_enter Try.func52, Try.ntmps52
    go_wp2_with fail
    refine (impl_ValidEstimates_any A c l _ hn HO.out ((HR.out.below K0.b).more K0.b.size)).mono ?_
    rintro e w1 ⟨rfl, b⟩
    have K1 := K0.below b
    have k0 := K1.at0
    have k1 := K1.at1
    have k2 := K1.at2
    have B1 := hide K1.b
    have R1 := hide ((HR.out.below K1.b).more K1.b.size)
    clear b K0
    go_wp2_with (first | (go_at_call 87; refine (impl_IsName_any _ _ hs).mono ?_; rintro e w' ⟨rfl, rfl⟩) | (go_at_call 100; refine (impl_ValidTime_any _ _).mono ?_; rintro e w' ⟨rfl, rfl⟩))
    go_ret2
    exact ⟨none, 0, rfl, Own.none_, B1.out⟩
  cases h3 : inB a 0 10000000
  · rw [show starOf l s a b = ([], 2) from by simp [starOf, h1, h2, h3]]
    go_enter Try.func52, Try.ntmps52
    go_wp2_with fail
    refine (impl_ValidEstimates_any A c l _ hn HO.out ((HR.out.below K0.b).more K0.b.size)).mono ?_
    rintro e w1 ⟨rfl, b⟩
    have K1 := K0.below b
    have k0 := K1.at0
    have k1 := K1.at1
    have k2 := K1.at2
    have B1 := hide K1.b
    have R1 := hide ((HR.out.below K1.b).more K1.b.size)
    clear b K0
    go_wp2_with (first | (go_at_call 87; refine (impl_IsName_any _ _ hs).mono ?_; rintro e w' ⟨rfl, rfl⟩) | (go_at_call 100; refine (impl_ValidTime_any _ _).mono ?_; rintro e w' ⟨rfl, rfl⟩))
    go_ret2
    exact ⟨none, 0, rfl, Own.none_, B1.out⟩
  cases h4 : inB b 0 10000000
  · rw [show starOf l s a b = ([], 2) from by simp [starOf, h1, h2, h3, h4]]
    go_enter Try.func52, Try.ntmps52
    go_wp2_with fail
    refine (impl_ValidEstimates_any A c l _ hn HO.out ((HR.out.below K0.b).more K0.b.size)).mono ?_
    rintro e w1 ⟨rfl, b⟩
    have K1 := K0.below b
    have k0 := K1.at0
    have k1 := K1.at1
    have k2 := K1.at2
    have B1 := hide K1.b
    have R1 := hide ((HR.out.below K1.b).more K1.b.size)
    clear b K0
    go_wp2_with (first | (go_at_call 87; refine (impl_IsName_any _ _ hs).mono ?_; rintro e w' ⟨rfl, rfl⟩) | (go_at_call 100; refine (impl_ValidTime_any _ _).mono ?_; rintro e w' ⟨rfl, rfl⟩))
    go_ret2
    exact ⟨none, 0, rfl, Own.none_, B1.out⟩
  rw [show starOf l s a b = (flt (starQ s a b) l l.length, 0) from by simp [starOf, h1, h2, h3, h4]]
  go_enter Try.func52, Try.ntmps52
  go_wp2_with fail
  refine (impl_ValidEstimates_any A c l _ hn HO.out ((HR.out.below K0.b).more K0.b.size)).mono ?_
  rintro e w1 ⟨rfl, b⟩
  have K1 := K0.below b
  have k0 := K1.at0
  have k1 := K1.at1
  have k2 := K1.at2
  have B1 := hide K1.b
  have R1 := hide ((HR.out.below K1.b).more K1.b.size)
  clear b K0
  go_wp2_with (first | (go_at_call 87; refine (impl_IsName_any _ _ hs).mono ?_; rintro e w' ⟨rfl, rfl⟩) | (go_at_call 100; refine (impl_ValidTime_any _ _).mono ?_; rintro e w' ⟨rfl, rfl⟩))
  refine (chosenOfStar_any A c l s a b (w.heap.size) (w.heap.size + 1) (w.heap.size + 2) _ hn k0 k1 k2 R1.out).mono ?_
  rintro e w2 ⟨A', c', rfl, hown, hb⟩
  have HX := hide (And.intro hown hb)
  clear hown hb
  go_wp2
  go_ret2
  exact ⟨A', c', rfl, HX.out.1.base B1.out.size, B1.out.trans (HX.out.2.mono B1.out.size)⟩
theorem spec_OfStar_val {l : List EstT} {s : ByteArray} {a : Int} {b : Int} {res : List EstT} {code : Int} (hF : (res, code) = starOf l s a b) (A : Option Addr) (c : Nat) (w : World) (hn : l.length ≤ 1048576) (hs : s.size ≤ maxLen) (hok : ∀ x ∈ l, x.ok) (hr : Rd w w.heap.size 5 A l.length (l.flatMap EstT.cells)) :
    Calls Try.prog 51 #[.slice A l.length c, .string s, .int .i64 a, .int .i64 b] w fun e w' => ∃ A' c', e = .returned (.tuple #[.slice A' res.length c', .int .i64 code]) ∧ Own w' w.heap.size 49 5 A' res.length c' (res.flatMap EstT.cells) ∧ Below w.heap.size w w' := by
  have h := spec_OfStar_any A c l s a b w hn hs hok hr
  rw [← hF] at h
  exact h
theorem impl_OfStar_val {l : List EstT} {s : ByteArray} {a : Int} {b : Int} {res : List EstT} {code : Int} (hF : (res, code) = starOf l s a b) (A : Option Addr) (c : Nat) (w : World) (hn : l.length ≤ 1048576) (hs : s.size ≤ maxLen) (hok : ∀ x ∈ l, x.ok) (hr : Rd w w.heap.size 5 A l.length (l.flatMap EstT.cells)) :
    Calls Try.prog 52 #[.slice A l.length c, .string s, .int .i64 a, .int .i64 b] w fun e w' => ∃ A' c', e = .returned (.tuple #[.slice A' res.length c', .int .i64 code]) ∧ Own w' w.heap.size 49 5 A' res.length c' (res.flatMap EstT.cells) ∧ Below w.heap.size w w' := by
  have h := impl_OfStar_any A c l s a b w hn hs hok hr
  rw [← hF] at h
  exact h
theorem OfStar_end : True := trivial
end Go.Proofs.Ytldgelkgobocdaa
