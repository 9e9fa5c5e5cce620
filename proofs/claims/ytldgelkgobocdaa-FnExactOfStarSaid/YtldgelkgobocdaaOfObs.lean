/-
  Contracts: estimates chosen from a list.
-/
import Derived.Test.YtldgelkgobocdaaFilt
import Derived.Test.YtldgelkgobocdaaValE
import Derived.Test.YtldgelkgobocdaaNum
import Derived.Test.YtldgelkgobocdaaRecE
import Derived.Test.YtldgelkgobocdaaKp
import Derived.Deep.QuietTactic
import Derived.BigQuiet
import Derived.OwnWalk
import Derived.Laws.AppendOwn
import Derived.Outline
namespace Go.Proofs.Ytldgelkgobocdaa
open Go.RowKit Pl
set_option linter.unusedVariables false
set_option linter.unusedSimpArgs false
def obsQ (s : ByteArray) (x : EstT) : Bool := x.obs.toList == s.toList
def obsOf (l : List EstT) (s : ByteArray) : List EstT × Int := if validB estOk estLt 100 l = true then (if nameB s = true then (flt (obsQ s) l l.length, 0) else ([], 2)) else ([], 1)
theorem obsOf_le (l : List EstT) (s : ByteArray) : (obsOf l s).1.length ≤ l.length := by
  unfold obsOf
  repeat' split
  all_goals first | exact flt_le | simp
theorem cloOfObserver_any {time : Int} {star obs : ByteArray} {mag : Int} {fain : Bool} (s : ByteArray) (g1 : Nat) (w : World) (b : Bool) (hq : (obs.toList == s.toList) = b) (h1 : w.cell? ⟨g1, 0, none⟩ = some (.string s)) :
    Calls Try.prog 98 #[.agg #[.int .i64 time, .string star, .string obs, .int .i64 mag, .bool fain], .pointer (some ⟨g1, 0, none⟩)] w fun e w' => e = .returned (.bool b) ∧ Below w.heap.size w w' := by
  have HB := hide hq
  clear hq
  have hz := World.block_lt_of_cell? w _ h1
  have k2 := ((Below.alloc (Below.refl w.heap.size w) (Nat.le_refl _) (.cells #[.int .i64 time, .string star, .string obs, .int .i64 mag, .bool fain] 49)).cell (p := ⟨g1, 0, none⟩) hz).trans h1
  go_enter Try.func98, Try.ntmps98
  go_wp2
  go_ret
  exact ⟨ret_bool HB.out, (by repeat (first | exact Below.refl _ _ | assumption | refine Below.drew ?_ | refine below_drewN ?_ _ | refine Below.alloc ?_ (by first | omega | (simp; done) | (simp; omega)) _ | refine Below.setCell ?_ (by first | omega | (simp; done) | (simp; omega)) _ | refine Below.trans ?_ (Below.mono (by assumption) (by first | omega | (simp; done) | (simp; omega)))))⟩
set_option maxHeartbeats 2000000 in
set_option maxRecDepth 100000 in
theorem chosenOfObserver_any (A : Option Addr) (c : Nat) (l : List EstT) (s : ByteArray) (g1 : Nat) (w : World) (hn : l.length ≤ 1048576) (h1 : w.cell? ⟨g1, 0, none⟩ = some (.string s)) (hr : Rd w w.heap.size 5 A l.length (l.flatMap EstT.cells)) :
    Calls Try.prog 97 #[.slice A l.length c, .func (.func 98) #[] #[.pointer (some ⟨g1, 0, none⟩)]] w fun e w' => ∃ A' c', e = .returned (.slice A' (flt (obsQ s) l l.length).length c') ∧ Own w' w.heap.size 49 5 A' (flt (obsQ s) l l.length).length c' ((flt (obsQ s) l l.length).flatMap EstT.cells) ∧ Below w.heap.size w w' := by
  obtain ⟨i0, hi, hz0, hz1, hz2⟩ := info_parts info_Estimate
  obtain ⟨q, hq⟩ : ∃ q, q = (obsQ s) := ⟨_, rfl⟩
  have HQ0 := hide hq
  rw [← hq]
  clear hq
  have HR := hide hr
  clear hr
  have zh1 := World.block_lt_of_cell? w _ h1
  have Hh1 := hide h1
  clear h1
  go_enter Try.func97, Try.ntmps97
  go_wp2_with fail
  go_loopw [5, 7, 11] (fun v x i wr => ∃ k : Nat, k ≤ l.length ∧ i = .int .i64 k ∧ Below w.heap.size w wr ∧ ∃ A' c', v = .slice A' (flt q l k).length c' ∧ Own wr w.heap.size 49 5 A' (flt q l k).length c' ((flt q l k).flatMap EstT.cells)) (fun _ _ i _ => l.length - (intOf i).toNat)
  case atStart => exact ⟨0, by omega, rfl, (Below.refl _ _).alloc (Nat.le_refl _) _, _, _, by rw [flt_zero]; rfl, by rw [flt_zero]; exact Own.empty_ _ _ _ (Nat.le_refl _)⟩
  case round =>
    obtain ⟨k, hk, rfl, hb, A', c', rfl, hown⟩ := hrel
    have Hb := hide hb
    have HW := hide hown
    clear hown
    by_cases hlt : k < l.length
    · have i1 : (0 : Int) ≤ (k : Int) := by omega
      have i2 : (k : Int) < (l.length : Int) := by omega
      obtain ⟨g, off, rfl, hg, hc⟩ := HR.out.elem EstT.cells_len hlt
      have f0 : wr.cell? ⟨g, off + k * 5, none⟩ = some (.int .i64 l[k].time) := (hb.cell (p := ⟨g, off + k * 5, none⟩) hg).trans (hc 0 _ rfl)
      have f1 : wr.cell? ⟨g, off + k * 5 + 1, none⟩ = some (.string l[k].star) := (hb.cell (p := ⟨g, off + k * 5 + 1, none⟩) hg).trans (hc 1 _ rfl)
      have f2 : wr.cell? ⟨g, off + k * 5 + 2, none⟩ = some (.string l[k].obs) := (hb.cell (p := ⟨g, off + k * 5 + 2, none⟩) hg).trans (hc 2 _ rfl)
      have f3 : wr.cell? ⟨g, off + k * 5 + 3, none⟩ = some (.int .i64 l[k].mag) := (hb.cell (p := ⟨g, off + k * 5 + 3, none⟩) hg).trans (hc 3 _ rfl)
      have f4 : wr.cell? ⟨g, off + k * 5 + 4, none⟩ = some (.bool l[k].fain) := (hb.cell (p := ⟨g, off + k * 5 + 4, none⟩) hg).trans (hc 4 _ rfl)
      have Ch1 := hide ((hb.cell (p := ⟨g1, 0, none⟩) zh1).trans Hh1.out)
      clear hc hb
      cases h3 : q l[k]
      · have HQ := hide (show (obsQ s) l[k] = false from by rw [← HQ0.out]; exact h3)
        have HM := hide h3
        clear h3
        go_wp2_with fail
        refine (cloOfObserver_any s g1 _ false HQ.out ?_).mono ?_
        · exact ((Below.alloc (Below.refl wr.heap.size wr) (Nat.le_refl _) _).cell (p := ⟨g1, 0, none⟩) (by have := Hb.out.size; simp; omega)).trans Ch1.out
        rintro e w1 ⟨rfl, hb1⟩
        obtain ⟨hcb, hfb⟩ := bcell hb1
        have hzx : wr.heap.size < w1.heap.size := by have := hb1.size; simp at this; omega
        have HV := hide ((HW.out.below (Below.alloc (Below.refl wr.heap.size wr) (Nat.le_refl _) _)).below hb1)
        have HB := hide (Hb.out.trans ((Below.alloc (Below.refl wr.heap.size wr) (Nat.le_refl _) _ |>.trans (hb1.mono (by simp))).mono Hb.out.size))
        clear hb1
        have HN := hide (flt_miss hlt HM.out)
        go_wp2
        go_roundw
        case rel => exact ⟨k + 1, by omega, by go_num, HB.out, A', c', by rw [HN.out], by rw [HN.out]; exact HV.out⟩
        case measure => simp [intOf]; omega
      · have HQ := hide (show (obsQ s) l[k] = true from by rw [← HQ0.out]; exact h3)
        have HM := hide h3
        clear h3
        go_wp2_with fail
        refine (cloOfObserver_any s g1 _ true HQ.out ?_).mono ?_
        · exact ((Below.alloc (Below.refl wr.heap.size wr) (Nat.le_refl _) _).cell (p := ⟨g1, 0, none⟩) (by have := Hb.out.size; simp; omega)).trans Ch1.out
        rintro e w1 ⟨rfl, hb1⟩
        obtain ⟨hcb, hfb⟩ := bcell hb1
        have hzx : wr.heap.size < w1.heap.size := by have := hb1.size; simp at this; omega
        have HV := hide ((HW.out.below (Below.alloc (Below.refl wr.heap.size wr) (Nat.le_refl _) _)).below hb1)
        have HB := hide (Hb.out.trans ((Below.alloc (Below.refl wr.heap.size wr) (Nat.le_refl _) _ |>.trans (hb1.mono (by simp))).mono Hb.out.size))
        clear hb1
        have HN := hide (flt_hit hlt HM.out)
        go_wp2_with (at_builtin; refine wpList_append_own _ rfl _ _ 52 rfl w.heap.size 49 i0 (.agg #[.int .i64 0, .string ⟨#[]⟩, .string ⟨#[]⟩, .int .i64 0, .bool false]) 5 56 Try.underlying52 hi hz0 hz1 hz2 rfl (by decide) _ _ _ rfl (HV.out.alloc _) ⟨w1.heap.size, 0, none⟩ 1 1 (EstT.cells l[k]) rfl rfl ?c1 ?c2 ?c3 ?c4 ?c5 ?_)
        case c1 => exact c1_new (us := EstT.cells l[k]) rfl
        case c2 => exact fun u hu => by simp only [EstT.cells, List.mem_cons, List.not_mem_nil, or_false] at hu; rcases hu with rfl | rfl | rfl | rfl | rfl <;> rfl
        case c3 => have := flt_le (q := q) (l := l) (n := k); unfold maxLen; omega
        case c4 => have := flt_le (q := q) (l := l) (n := k); omega
        case c5 => have := HB.out.size; simp; omega
        intro v' w9 hown' hgrow _
        have hlen : (flt q l k).length + 1 = (flt q l (k + 1)).length := by rw [HN.out]; simp
        obtain ⟨A2, c2, rfl, hown2⟩ := Own.more (zs := (flt q l (k + 1)).flatMap EstT.cells) hown' hlen (by rw [HN.out, List.flatMap_append]; simp)
        have HX := hide (And.intro hown2 hgrow)
        clear hown' hgrow hown2
        go_wp2
        go_roundw
        case rel =>
          obtain ⟨h1, h2⟩ := HX.out
          exact ⟨k + 1, by omega, by go_num, (HB.out.alloc HB.out.size _).grown h2 (by have := HB.out.size; simp; omega) (fun j hj => (HV.out.lt hj).1), A2, c2, rfl, h1⟩
        case measure => simp [intOf]; omega
    · obtain rfl : k = l.length := by omega
      clear hb
      go_wp2
      go_ret
      exact ⟨A', c', rfl, HW.out, Hb.out⟩
set_option maxHeartbeats 2000000 in
set_option maxRecDepth 100000 in
theorem spec_OfObserver_any (A : Option Addr) (c : Nat) (l : List EstT) (s : ByteArray) (w : World) (hn : l.length ≤ 1048576) (hs : s.size ≤ maxLen) (hok : ∀ x ∈ l, x.ok) (hr : Rd w w.heap.size 5 A l.length (l.flatMap EstT.cells)) :
    Calls Try.prog 47 #[.slice A l.length c, .string s] w fun e w' => ∃ A' c', e = .returned (.tuple #[.slice A' (obsOf l s).1.length c', .int .i64 (obsOf l s).2]) ∧ Own w' w.heap.size 49 5 A' (obsOf l s).1.length c' ((obsOf l s).1.flatMap EstT.cells) ∧ Below w.heap.size w w' := by
  obtain ⟨i0, hi, hz0, hz1, hz2⟩ := info_parts info_Estimate
  have HR := hide hr
  have HO := hide hok
  clear hr hok
  cases h1 : validB estOk estLt 100 l
  · rw [show obsOf l s = ([], 1) from by simp [obsOf, h1]]
    go_enter Try.func47, Try.ntmps47
    go_wp2_with fail
    refine (l06Ok_any A c l _ hn HO.out HR.out).mono ?_
    rintro e w1 ⟨rfl, b⟩
    have B1 := hide b
    have R1 := hide ((HR.out.below b).more b.size)
    clear b
    go_wp2
    go_ret2
    exact ⟨none, 0, rfl, Own.none_, B1.out⟩
  cases h2 : nameB s
  · rw [show obsOf l s = ([], 2) from by simp [obsOf, h1, h2]]
    go_enter Try.func47, Try.ntmps47
    go_wp2_with fail
    refine (l06Ok_any A c l _ hn HO.out HR.out).mono ?_
    rintro e w1 ⟨rfl, b⟩
    have B1 := hide b
    have R1 := hide ((HR.out.below b).more b.size)
    clear b
    go_wp2_with (first | (go_at_call 84; refine (spec_IsName_any _ _ hs).mono ?_; rintro e w' ⟨rfl, rfl⟩))
    go_ret2
    exact ⟨none, 0, rfl, Own.none_, B1.out⟩
  rw [show obsOf l s = (flt (obsQ s) l l.length, 0) from by simp [obsOf, h1, h2]]
  obtain ⟨q, hq⟩ : ∃ q, q = (obsQ s) := ⟨_, rfl⟩
  have HQ0 := hide hq
  rw [← hq]
  clear hq
  go_enter Try.func47, Try.ntmps47
  go_wp2_with fail
  refine (l06Ok_any A c l _ hn HO.out HR.out).mono ?_
  rintro e w1 ⟨rfl, b⟩
  have B1 := hide b
  have R1 := hide ((HR.out.below b).more b.size)
  clear b
  go_wp2_with (first | (go_at_call 84; refine (spec_IsName_any _ _ hs).mono ?_; rintro e w' ⟨rfl, rfl⟩))
  go_loopw [6, 7] (fun v i wr => ∃ k : Nat, k ≤ l.length ∧ i = .int .i64 k ∧ Below w1.heap.size w1 wr ∧ ∃ A' c', v = .slice A' (flt q l k).length c' ∧ Own wr w1.heap.size 49 5 A' (flt q l k).length c' ((flt q l k).flatMap EstT.cells)) (fun _ i _ => l.length - (intOf i).toNat)
  case atStart => exact ⟨0, by omega, rfl, (Below.refl _ _).alloc (Nat.le_refl _) _, _, _, by rw [flt_zero]; rfl, by rw [flt_zero]; exact Own.empty_ _ _ _ (Nat.le_refl _)⟩
  case round =>
    obtain ⟨k, hk, rfl, hb, A', c', rfl, hown⟩ := hrel
    have HB := hide hb
    have HV := hide hown
    clear hown
    by_cases hlt : k < l.length
    · have i1 : (0 : Int) ≤ (k : Int) := by omega
      have i2 : (k : Int) < (l.length : Int) := by omega
      obtain ⟨g, off, rfl, hg, hc⟩ := R1.out.elem EstT.cells_len hlt
      have f0 : wr.cell? ⟨g, off + k * 5, none⟩ = some (.int .i64 l[k].time) := (hb.cell (p := ⟨g, off + k * 5, none⟩) hg).trans (hc 0 _ rfl)
      have f1 : wr.cell? ⟨g, off + k * 5 + 1, none⟩ = some (.string l[k].star) := (hb.cell (p := ⟨g, off + k * 5 + 1, none⟩) hg).trans (hc 1 _ rfl)
      have f2 : wr.cell? ⟨g, off + k * 5 + 2, none⟩ = some (.string l[k].obs) := (hb.cell (p := ⟨g, off + k * 5 + 2, none⟩) hg).trans (hc 2 _ rfl)
      have f3 : wr.cell? ⟨g, off + k * 5 + 3, none⟩ = some (.int .i64 l[k].mag) := (hb.cell (p := ⟨g, off + k * 5 + 3, none⟩) hg).trans (hc 3 _ rfl)
      have f4 : wr.cell? ⟨g, off + k * 5 + 4, none⟩ = some (.bool l[k].fain) := (hb.cell (p := ⟨g, off + k * 5 + 4, none⟩) hg).trans (hc 4 _ rfl)
      clear hc hb
      cases h3 : q l[k]
      · have HQ := hide (show (obsQ s) l[k] = false from by rw [← HQ0.out]; exact h3)
        have HM := hide h3
        clear h3
        have hq2 : (l[k].obs.toList == s.toList) = false := HQ.out
        have HN := hide (flt_miss hlt HM.out)
        go_wp2
        go_roundw
        case rel => exact ⟨k + 1, by omega, by go_num, HB.out, A', c', by rw [HN.out], by rw [HN.out]; exact HV.out⟩
        case measure => simp [intOf]; omega
      · have HQ := hide (show (obsQ s) l[k] = true from by rw [← HQ0.out]; exact h3)
        have HM := hide h3
        clear h3
        have hq2 : (l[k].obs.toList == s.toList) = true := HQ.out
        have HN := hide (flt_hit hlt HM.out)
        go_wp2_with (at_builtin; refine wpList_append_own _ rfl _ _ 52 rfl w1.heap.size 49 i0 (.agg #[.int .i64 0, .string ⟨#[]⟩, .string ⟨#[]⟩, .int .i64 0, .bool false]) 5 56 Try.underlying52 hi hz0 hz1 hz2 rfl (by decide) _ _ _ rfl (HV.out.alloc _) ⟨wr.heap.size, 0, none⟩ 1 1 (EstT.cells l[k]) rfl rfl ?c1 ?c2 ?c3 ?c4 ?c5 ?_)
        case c1 => exact c1_new (us := EstT.cells l[k]) rfl
        case c2 => exact fun u hu => by simp only [EstT.cells, List.mem_cons, List.not_mem_nil, or_false] at hu; rcases hu with rfl | rfl | rfl | rfl | rfl <;> rfl
        case c3 => have := flt_le (q := q) (l := l) (n := k); unfold maxLen; omega
        case c4 => have := flt_le (q := q) (l := l) (n := k); omega
        case c5 => have := HB.out.size; simp; omega
        intro v' w9 hown' hgrow _
        have hlen : (flt q l k).length + 1 = (flt q l (k + 1)).length := by rw [HN.out]; simp
        obtain ⟨A2, c2, rfl, hown2⟩ := Own.more (zs := (flt q l (k + 1)).flatMap EstT.cells) hown' hlen (by rw [HN.out, List.flatMap_append]; simp)
        have HX := hide (And.intro hown2 hgrow)
        clear hown' hgrow hown2
        go_wp2
        go_roundw
        case rel =>
          obtain ⟨h1, h2⟩ := HX.out
          exact ⟨k + 1, by omega, by go_num, (HB.out.alloc HB.out.size _).grown h2 (by have := HB.out.size; simp; omega) (fun j hj => (HV.out.lt hj).1), A2, c2, rfl, h1⟩
        case measure => simp [intOf]; omega
    · obtain rfl : k = l.length := by omega
      clear hb
      go_wp2
      go_ret2
      exact ⟨A', c', rfl, HV.out.base B1.out.size, B1.out.trans (HB.out.mono B1.out.size)⟩
set_option maxHeartbeats 2000000 in
set_option maxRecDepth 100000 in
theorem impl_OfObserver_any (A : Option Addr) (c : Nat) (l : List EstT) (s : ByteArray) (w : World) (hn : l.length ≤ 1048576) (hs : s.size ≤ maxLen) (hok : ∀ x ∈ l, x.ok) (hr : Rd w w.heap.size 5 A l.length (l.flatMap EstT.cells)) :
    Calls Try.prog 48 #[.slice A l.length c, .string s] w fun e w' => ∃ A' c', e = .returned (.tuple #[.slice A' (obsOf l s).1.length c', .int .i64 (obsOf l s).2]) ∧ Own w' w.heap.size 49 5 A' (obsOf l s).1.length c' ((obsOf l s).1.flatMap EstT.cells) ∧ Below w.heap.size w w' := by
  obtain ⟨i0, hi, hz0, hz1, hz2⟩ := info_parts info_Estimate
  have HR := hide hr
  have HO := hide hok
  clear hr hok
  have K0 : Kp w [(⟨w.heap.size, 0, none⟩, .string s)] (w.alloc (.cells #[.string s] 9)) := ⟨(Below.refl _ _).alloc (Nat.le_refl _) _, fun p hp => by
    simp only [List.mem_cons, List.not_mem_nil, or_false] at hp
    subst hp
    all_goals refine ⟨?_, ?_⟩ <;> simp [go_sem]⟩
  cases h1 : validB estOk estLt 100 l
  · rw [show obsOf l s = ([], 1) from by simp [obsOf, h1]]
    go_enter Try.func48, Try.ntmps48
    go_wp2_with fail
    refine (impl_ValidEstimates_any A c l _ hn HO.out ((HR.out.below K0.b).more K0.b.size)).mono ?_
    rintro e w1 ⟨rfl, b⟩
    have K1 := K0.below b
    have k0 := K1.at0
    have B1 := hide K1.b
    have R1 := hide ((HR.out.below K1.b).more K1.b.size)
    clear b K0
    go_wp2
    go_ret2
    exact ⟨none, 0, rfl, Own.none_, B1.out⟩
  cases h2 : nameB s
  · rw [show obsOf l s = ([], 2) from by simp [obsOf, h1, h2]]
    go_enter Try.func48, Try.ntmps48
    go_wp2_with fail
    refine (impl_ValidEstimates_any A c l _ hn HO.out ((HR.out.below K0.b).more K0.b.size)).mono ?_
    rintro e w1 ⟨rfl, b⟩
    have K1 := K0.below b
    have k0 := K1.at0
    have B1 := hide K1.b
    have R1 := hide ((HR.out.below K1.b).more K1.b.size)
    clear b K0
    go_wp2_with (first | (go_at_call 87; refine (impl_IsName_any _ _ hs).mono ?_; rintro e w' ⟨rfl, rfl⟩))
    go_ret2
    exact ⟨none, 0, rfl, Own.none_, B1.out⟩
  rw [show obsOf l s = (flt (obsQ s) l l.length, 0) from by simp [obsOf, h1, h2]]
  go_enter Try.func48, Try.ntmps48
  go_wp2_with fail
  refine (impl_ValidEstimates_any A c l _ hn HO.out ((HR.out.below K0.b).more K0.b.size)).mono ?_
  rintro e w1 ⟨rfl, b⟩
  have K1 := K0.below b
  have k0 := K1.at0
  have B1 := hide K1.b
  have R1 := hide ((HR.out.below K1.b).more K1.b.size)
  clear b K0
  go_wp2_with (first | (go_at_call 87; refine (impl_IsName_any _ _ hs).mono ?_; rintro e w' ⟨rfl, rfl⟩))
  refine (chosenOfObserver_any A c l s (w.heap.size) _ hn k0 R1.out).mono ?_
  rintro e w2 ⟨A', c', rfl, hown, hb⟩
  have HX := hide (And.intro hown hb)
  clear hown hb
  go_wp2
  go_ret2
  exact ⟨A', c', rfl, HX.out.1.base B1.out.size, B1.out.trans (HX.out.2.mono B1.out.size)⟩
theorem spec_OfObserver_val {l : List EstT} {s : ByteArray} {res : List EstT} {code : Int} (hF : (res, code) = obsOf l s) (A : Option Addr) (c : Nat) (w : World) (hn : l.length ≤ 1048576) (hs : s.size ≤ maxLen) (hok : ∀ x ∈ l, x.ok) (hr : Rd w w.heap.size 5 A l.length (l.flatMap EstT.cells)) :
    Calls Try.prog 47 #[.slice A l.length c, .string s] w fun e w' => ∃ A' c', e = .returned (.tuple #[.slice A' res.length c', .int .i64 code]) ∧ Own w' w.heap.size 49 5 A' res.length c' (res.flatMap EstT.cells) ∧ Below w.heap.size w w' := by
  have h := spec_OfObserver_any A c l s w hn hs hok hr
  rw [← hF] at h
  exact h
theorem impl_OfObserver_val {l : List EstT} {s : ByteArray} {res : List EstT} {code : Int} (hF : (res, code) = obsOf l s) (A : Option Addr) (c : Nat) (w : World) (hn : l.length ≤ 1048576) (hs : s.size ≤ maxLen) (hok : ∀ x ∈ l, x.ok) (hr : Rd w w.heap.size 5 A l.length (l.flatMap EstT.cells)) :
    Calls Try.prog 48 #[.slice A l.length c, .string s] w fun e w' => ∃ A' c', e = .returned (.tuple #[.slice A' res.length c', .int .i64 code]) ∧ Own w' w.heap.size 49 5 A' res.length c' (res.flatMap EstT.cells) ∧ Below w.heap.size w w' := by
  have h := impl_OfObserver_any A c l s w hn hs hok hr
  rw [← hF] at h
  exact h
theorem OfObserver_end : True := trivial
end Go.Proofs.Ytldgelkgobocdaa
