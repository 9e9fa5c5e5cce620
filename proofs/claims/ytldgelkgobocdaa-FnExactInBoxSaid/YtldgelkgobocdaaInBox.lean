/-
  Contracts: the stars that lie in a box.
-/
import Derived.Test.YtldgelkgobocdaaFilt
import Derived.Test.YtldgelkgobocdaaInBoxA
import Derived.Test.YtldgelkgobocdaaNum
import Derived.Test.YtldgelkgobocdaaRecS
import Derived.Deep.RegionHeld3
import Derived.Test.YtldgelkgobocdaaKp
import Derived.Deep.QuietTactic
import Derived.BigQuiet
import Derived.OwnWalk
import Derived.Laws.AppendOwn
import Derived.Outline
namespace Go.Proofs.Ytldgelkgobocdaa
open Go.RowKit Pl
set_option linter.unusedVariables false
set_option linter.unusedSimpArgs false
def boxQ (l : List StarT) (b0 b1 b2 b3 : Int) (i : Nat) : Bool := match l[i]? with | some x => hasB b0 b1 b2 b3 x.asc x.dec | none => false
theorem boxQ_at {l : List StarT} {b0 b1 b2 b3 : Int} {i : Nat} (h : i < l.length) : boxQ l b0 b1 b2 b3 i = hasB b0 b1 b2 b3 l[i].asc l[i].dec := by simp [boxQ, h]
def boxOf (l : List StarT) (b0 b1 b2 b3 : Int) : List Int × Int := if validB starOk starLt 60 l = true then (if boxB b0 b1 b2 b3 = true then (whI (boxQ l b0 b1 b2 b3) l.length, 0) else ([], 1)) else ([], 1)
theorem boxOf_le (l : List StarT) (b0 b1 b2 b3 : Int) : (boxOf l b0 b1 b2 b3).1.length ≤ l.length := by
  unfold boxOf
  repeat' split
  all_goals first | exact whI_le | simp
theorem cloBox_any (A : Option Addr) (c : Nat) (l : List StarT) (b0 b1 b2 b3 : Int) (g1 g2 i : Nat) (b : Bool) (w : World) (hn : l.length ≤ 1048576) (hlt : i < l.length) (h0 : w.cell? ⟨g1, 0, none⟩ = some (.int .i64 b0)) (h1 : w.cell? ⟨g1, 1, none⟩ = some (.int .i64 b1)) (h2 : w.cell? ⟨g1, 2, none⟩ = some (.int .i64 b2)) (h3 : w.cell? ⟨g1, 3, none⟩ = some (.int .i64 b3)) (h4 : w.cell? ⟨g2, 0, none⟩ = some (.slice A l.length c)) (hr : Rd w w.heap.size 5 A l.length (l.flatMap StarT.cells)) (hq : boxQ l b0 b1 b2 b3 i = b) :
    Calls Try.prog 95 #[.int .i64 i, .pointer (some ⟨g1, 0, none⟩), .pointer (some ⟨g2, 0, none⟩)] w fun e w' => e = .returned (.bool b) ∧ Below w.heap.size w w' := by
  rw [boxQ_at hlt] at hq
  obtain ⟨g, off, rfl, hg, hc⟩ := hr.elem StarT.cells_len hlt
  have hz1 := World.block_lt_of_cell? w _ h0
  have hz2 := World.block_lt_of_cell? w _ h4
  have f0 : w.cell? ⟨g, off + i * 5, none⟩ = some (.string l[i].name) := hc 0 _ rfl
  have f1 : w.cell? ⟨g, off + i * 5 + 1, none⟩ = some (.int .i64 l[i].asc) := hc 1 _ rfl
  have f2 : w.cell? ⟨g, off + i * 5 + 2, none⟩ = some (.int .i64 l[i].dec) := hc 2 _ rfl
  have f3 : w.cell? ⟨g, off + i * 5 + 3, none⟩ = some (.int .i64 l[i].bri) := hc 3 _ rfl
  have f4 : w.cell? ⟨g, off + i * 5 + 4, none⟩ = some (.int .i64 l[i].fai) := hc 4 _ rfl
  have i1 : (0 : Int) ≤ (i : Int) := by omega
  have i2 : (i : Int) < (l.length : Int) := by omega
  have HQ := hide hq
  clear hq hc hr
  go_enter Try.func95, Try.ntmps95
  go_wp2_with fail
  go_region_held3 (fun w' => w'.cell? ⟨g1, 0, none⟩ = some (.int .i64 b0) ∧ w'.cell? ⟨g1, 1, none⟩ = some (.int .i64 b1) ∧ w'.cell? ⟨g1, 2, none⟩ = some (.int .i64 b2) ∧ w'.cell? ⟨g1, 3, none⟩ = some (.int .i64 b3) ∧ w'.cell? ⟨g2, 0, none⟩ = some (.slice (some ⟨g, off, none⟩) l.length c) ∧ w'.cell? ⟨g, off + i * 5, none⟩ = some (.string l[i].name) ∧ w'.cell? ⟨g, off + i * 5 + 1, none⟩ = some (.int .i64 l[i].asc) ∧ w'.cell? ⟨g, off + i * 5 + 2, none⟩ = some (.int .i64 l[i].dec) ∧ w'.cell? ⟨g, off + i * 5 + 3, none⟩ = some (.int .i64 l[i].bri) ∧ w'.cell? ⟨g, off + i * 5 + 4, none⟩ = some (.int .i64 l[i].fai)) (go_keep)
    (first | (go_at_call 96; refine (has_any _ _ _ _ _ _ _ _ _ _).mono ?_; rintro e w1 ⟨rfl, hb1⟩; have d0 := (hb1.cell (p := ⟨g1, 0, none⟩) hz1).trans h0; have d1 := (hb1.cell (p := ⟨g1, 1, none⟩) hz1).trans h1; have d2 := (hb1.cell (p := ⟨g1, 2, none⟩) hz1).trans h2; have d3 := (hb1.cell (p := ⟨g1, 3, none⟩) hz1).trans h3; have d4 := (hb1.cell (p := ⟨g2, 0, none⟩) hz2).trans h4; have d5 := (hb1.cell (p := ⟨g, off + i * 5, none⟩) hg).trans f0; have d6 := (hb1.cell (p := ⟨g, off + i * 5 + 1, none⟩) hg).trans f1; have d7 := (hb1.cell (p := ⟨g, off + i * 5 + 2, none⟩) hg).trans f2; have d8 := (hb1.cell (p := ⟨g, off + i * 5 + 3, none⟩) hg).trans f3; have d9 := (hb1.cell (p := ⟨g, off + i * 5 + 4, none⟩) hg).trans f4))
  have HB := hide (show Below w.drew.heap.size w.drew w1 from hb1)
  go_wp2
  go_ret
  exact ⟨ret_bool HQ.out, (Below.refl w.heap.size w).drew.trans HB.out⟩
set_option maxHeartbeats 2000000 in
set_option maxRecDepth 100000 in
theorem indicesBox_any (b0 b1 b2 b3 : Int) (g1 g2 : Nat) (A : Option Addr) (c : Nat) (l : List StarT) (w : World) (hn : l.length ≤ 1048576) (h0 : w.cell? ⟨g1, 0, none⟩ = some (.int .i64 b0)) (h1 : w.cell? ⟨g1, 1, none⟩ = some (.int .i64 b1)) (h2 : w.cell? ⟨g1, 2, none⟩ = some (.int .i64 b2)) (h3 : w.cell? ⟨g1, 3, none⟩ = some (.int .i64 b3)) (h4 : w.cell? ⟨g2, 0, none⟩ = some (.slice A l.length c)) (hr : Rd w w.heap.size 5 A l.length (l.flatMap StarT.cells)) :
    Calls Try.prog 78 #[.int .i64 l.length, .func (.func 95) #[] #[.pointer (some ⟨g1, 0, none⟩), .pointer (some ⟨g2, 0, none⟩)]] w fun e w' => ∃ A' c', e = .returned (.slice A' (whI (boxQ l b0 b1 b2 b3) l.length).length c') ∧ Own w' w.heap.size 2 1 A' (whI (boxQ l b0 b1 b2 b3) l.length).length c' (ints (whI (boxQ l b0 b1 b2 b3) l.length)) ∧ Below w.heap.size w w' := by
  obtain ⟨i0, hi, hz0, hz1, hz2⟩ := info_parts info_int
  obtain ⟨q, hq⟩ : ∃ q, q = boxQ l b0 b1 b2 b3 := ⟨_, rfl⟩
  have HQ0 := hide hq
  rw [← hq]
  clear hq
  have HR := hide hr
  clear hr
  have zh0 := World.block_lt_of_cell? w _ h0
  have Hh0 := hide h0
  have zh1 := World.block_lt_of_cell? w _ h1
  have Hh1 := hide h1
  have zh2 := World.block_lt_of_cell? w _ h2
  have Hh2 := hide h2
  have zh3 := World.block_lt_of_cell? w _ h3
  have Hh3 := hide h3
  have zh4 := World.block_lt_of_cell? w _ h4
  have Hh4 := hide h4
  clear h0 h1 h2 h3 h4
  go_enter Try.func78, Try.ntmps78
  go_wp2_with fail
  go_loopw [5, 9] (fun v i wr => ∃ k : Nat, k ≤ l.length ∧ i = .int .i64 k ∧ Below w.heap.size w wr ∧ ∃ A' c', v = .slice A' (whI q k).length c' ∧ Own wr w.heap.size 2 1 A' (whI q k).length c' (ints (whI q k))) (fun _ i _ => l.length - (intOf i).toNat)
  case atStart => exact ⟨0, by omega, rfl, (Below.refl _ _).alloc (Nat.le_refl _) _, _, _, rfl, Own.empty_ _ _ _ (Nat.le_refl _)⟩
  case round =>
    obtain ⟨k, hk, rfl, hb, A', c', rfl, hown⟩ := hrel
    have Hb := hide hb
    have HW := hide hown
    clear hown
    by_cases hlt : k < l.length
    · have i1 : (0 : Int) ≤ (k : Int) := by omega
      have i2 : (k : Int) < (l.length : Int) := by omega
      have R := hide ((HR.out.below hb).more hb.size)
      have Ch0 := hide ((hb.cell (p := ⟨g1, 0, none⟩) zh0).trans Hh0.out)
      have Ch1 := hide ((hb.cell (p := ⟨g1, 1, none⟩) zh1).trans Hh1.out)
      have Ch2 := hide ((hb.cell (p := ⟨g1, 2, none⟩) zh2).trans Hh2.out)
      have Ch3 := hide ((hb.cell (p := ⟨g1, 3, none⟩) zh3).trans Hh3.out)
      have Ch4 := hide ((hb.cell (p := ⟨g2, 0, none⟩) zh4).trans Hh4.out)
      clear hb
      cases h3 : q k
      · have HQ := hide (show boxQ l b0 b1 b2 b3 k = false from by rw [← HQ0.out]; exact h3)
        have HM := hide h3
        clear h3
        go_wp2_with fail
        refine (cloBox_any A c l b0 b1 b2 b3 g1 g2 k _ _ hn hlt Ch0.out Ch1.out Ch2.out Ch3.out Ch4.out R.out HQ.out).mono ?_
        rintro e w1 ⟨rfl, hb1⟩
        have hsz1 : wr.heap.size ≤ w1.heap.size := hb1.size
        have HV := hide (HW.out.below hb1)
        have HB := hide (Hb.out.trans (hb1.mono Hb.out.size))
        clear hb1
        have HN := hide (whI_miss HM.out)
        go_wp2
        go_roundw
        case rel => exact ⟨k + 1, by omega, by go_num, HB.out, A', c', by rw [HN.out], by rw [HN.out]; exact HV.out⟩
        case measure => simp [intOf]; omega
      · have HQ := hide (show boxQ l b0 b1 b2 b3 k = true from by rw [← HQ0.out]; exact h3)
        have HM := hide h3
        clear h3
        go_wp2_with fail
        refine (cloBox_any A c l b0 b1 b2 b3 g1 g2 k _ _ hn hlt Ch0.out Ch1.out Ch2.out Ch3.out Ch4.out R.out HQ.out).mono ?_
        rintro e w1 ⟨rfl, hb1⟩
        have hsz1 : wr.heap.size ≤ w1.heap.size := hb1.size
        have HV := hide (HW.out.below hb1)
        have HB := hide (Hb.out.trans (hb1.mono Hb.out.size))
        clear hb1
        have HN := hide (whI_hit HM.out)
        go_wp2_with (at_builtin; refine wpList_append_own _ rfl _ _ 39 rfl w.heap.size 2 i0 (.int .i64 0) 1 8 Try.underlying39 hi hz0 hz1 hz2 rfl (by decide) _ _ _ rfl (HV.out.alloc _) ⟨w1.heap.size, 0, none⟩ 1 1 [.int .i64 k] rfl rfl ?c1 ?c2 ?c3 ?c4 ?c5 ?_)
        case c1 => exact c1_new rfl
        case c2 => intro u hu; simp at hu; subst hu; rfl
        case c3 => have := whI_le (q := q) (n := k); unfold maxLen; omega
        case c4 => have := whI_le (q := q) (n := k); omega
        case c5 => have := HB.out.size; simp; omega
        intro v' w2 hown' hgrow _
        have hlen : (whI q k).length + 1 = (whI q (k + 1)).length := by rw [HN.out]; simp
        obtain ⟨A2, c2, rfl, hown2⟩ := Own.more (zs := ints (whI q (k + 1))) hown' hlen (by rw [HN.out, ints_app]; rfl)
        have HX := hide (And.intro hown2 hgrow)
        clear hown' hgrow hown2
        go_wp2
        go_roundw
        case rel =>
          obtain ⟨h1, h2⟩ := HX.out
          exact ⟨k + 1, by omega, by go_num, (HB.out.alloc HB.out.size _).grown h2 (by have := HB.out.size; simp; omega) (fun j hj => (HV.out.lt hj).1), A2, c2, rfl, h1⟩
        case measure => simp [intOf]; omega
    · obtain rfl : k = l.length := by omega
      clear hb
      go_wp2
      go_ret
      exact ⟨A', c', rfl, HW.out, Hb.out⟩
set_option maxHeartbeats 2000000 in
set_option maxRecDepth 100000 in
theorem spec_InBox_any (A : Option Addr) (c : Nat) (l : List StarT) (b0 b1 b2 b3 : Int) (w : World) (hn : l.length ≤ 1048576) (hok : ∀ x ∈ l, x.ok) (hr : Rd w w.heap.size 5 A l.length (l.flatMap StarT.cells)) :
    Calls Try.prog 44 #[.slice A l.length c, .agg #[.int .i64 b0, .int .i64 b1, .int .i64 b2, .int .i64 b3]] w fun e w' => ∃ A' c', e = .returned (.tuple #[.slice A' (boxOf l b0 b1 b2 b3).1.length c', .int .i64 (boxOf l b0 b1 b2 b3).2]) ∧ Own w' w.heap.size 2 1 A' (boxOf l b0 b1 b2 b3).1.length c' (ints (boxOf l b0 b1 b2 b3).1) ∧ Below w.heap.size w w' := by
  obtain ⟨i0, hi, hz0, hz1, hz2⟩ := info_parts info_int
  have HR := hide hr
  have HO := hide hok
  clear hr hok
  have K0 : Kp w [(⟨w.heap.size, 0, none⟩, .int .i64 b0), (⟨w.heap.size, 1, none⟩, .int .i64 b1), (⟨w.heap.size, 2, none⟩, .int .i64 b2), (⟨w.heap.size, 3, none⟩, .int .i64 b3)] (w.alloc (.cells #[.int .i64 b0, .int .i64 b1, .int .i64 b2, .int .i64 b3] 65)) := ⟨(Below.refl _ _).alloc (Nat.le_refl _) _, fun p hp => by
    simp only [List.mem_cons, List.not_mem_nil, or_false] at hp
    rcases hp with rfl | rfl | rfl | rfl
    all_goals refine ⟨?_, ?_⟩ <;> simp [go_sem]⟩
  cases h1 : validB starOk starLt 60 l
  · rw [show boxOf l b0 b1 b2 b3 = ([], 1) from by simp [boxOf, h1]]
    go_enter Try.func44, Try.ntmps44
    go_wp2_with fail
    refine (l04Ok_any A c l _ hn HO.out ((HR.out.below K0.b).more K0.b.size)).mono ?_
    rintro e w1 ⟨rfl, b⟩
    have K1 := K0.below b
    have k0 := K1.at0
    have k1 := K1.at1
    have k2 := K1.at2
    have k3 := K1.at3
    have B1 := hide K1.b
    have HK1 := hide K1
    clear b K0 K1
    go_wp2
    go_ret2
    exact ⟨none, 0, rfl, Own.none_, B1.out⟩
  cases h2 : boxB b0 b1 b2 b3
  · rw [show boxOf l b0 b1 b2 b3 = ([], 1) from by simp [boxOf, h1, h2]]
    go_enter Try.func44, Try.ntmps44
    go_wp2_with fail
    refine (l04Ok_any A c l _ hn HO.out ((HR.out.below K0.b).more K0.b.size)).mono ?_
    rintro e w1 ⟨rfl, b⟩
    have K1 := K0.below b
    have k0 := K1.at0
    have k1 := K1.at1
    have k2 := K1.at2
    have k3 := K1.at3
    have B1 := hide K1.b
    have HK1 := hide K1
    clear b K0 K1
    go_wp2_with (go_at_call 92; refine (spec_l04Box_any _ _ _ _ _ _ k0 k1 k2 k3).mono ?_; rintro e w2 ⟨rfl, b2_⟩)
    go_ret2
    exact ⟨none, 0, rfl, Own.none_, B1.out.trans (b2_.mono B1.out.size)⟩
  · rw [show boxOf l b0 b1 b2 b3 = (whI (boxQ l b0 b1 b2 b3) l.length, 0) from by simp [boxOf, h1, h2]]
    obtain ⟨q, hq⟩ : ∃ q, q = boxQ l b0 b1 b2 b3 := ⟨_, rfl⟩
    have HQ0 := hide hq
    rw [← hq]
    clear hq
    go_enter Try.func44, Try.ntmps44
    go_wp2_with fail
    refine (l04Ok_any A c l _ hn HO.out ((HR.out.below K0.b).more K0.b.size)).mono ?_
    rintro e w1 ⟨rfl, b⟩
    have K1 := K0.below b
    have k0 := K1.at0
    have k1 := K1.at1
    have k2 := K1.at2
    have k3 := K1.at3
    have B1 := hide K1.b
    have HK1 := hide K1
    clear b K0 K1
    go_wp2_with fail
    refine (spec_l04Box_any _ _ _ _ _ _ k0 k1 k2 k3).mono ?_
    rintro e w2 ⟨rfl, b2_⟩
    have K2 := HK1.out.below b2_
    have B2 := hide K2.b
    have R2 := hide ((HR.out.below K2.b).more K2.b.size)
    have k0 := K2.at0
    have k1 := K2.at1
    have k2 := K2.at2
    have k3 := K2.at3
    have HK2 := hide K2
    clear b2_ K2
    clear k0 k1 k2 k3
    go_wp2_with fail
    go_loopw [6, 7] (fun v i wr => ∃ k : Nat, k ≤ l.length ∧ i = .int .i64 k ∧ Below w2.heap.size w2 wr ∧ ∃ A' c', v = .slice A' (whI q k).length c' ∧ Own wr w2.heap.size 2 1 A' (whI q k).length c' (ints (whI q k))) (fun _ i _ => l.length - (intOf i).toNat)
    case atStart => exact ⟨0, by omega, rfl, (Below.refl _ _).alloc (Nat.le_refl _) _, _, _, rfl, Own.empty_ _ _ _ (Nat.le_refl _)⟩
    case round =>
      obtain ⟨k, hk, rfl, hb, A', c', rfl, hown⟩ := hrel
      have Hb := hide hb
      have HW := hide hown
      clear hown
      by_cases hlt : k < l.length
      · have i1 : (0 : Int) ≤ (k : Int) := by omega
        have i2 : (k : Int) < (l.length : Int) := by omega
        obtain ⟨g, off, rfl, hg, hc⟩ := R2.out.elem StarT.cells_len hlt
        have f1 := hide ((hb.cell (p := ⟨g, off + k * 5 + 1, none⟩) hg).trans (hc 1 _ rfl))
        have f2 := hide ((hb.cell (p := ⟨g, off + k * 5 + 2, none⟩) hg).trans (hc 2 _ rfl))
        have K3 := hide (HK2.out.below hb)
        clear hb hc
        cases h3 : q k
        · have HQ := hide (show hasB b0 b1 b2 b3 l[k].asc l[k].dec = false from by rw [← boxQ_at hlt, ← HQ0.out]; exact h3)
          have HM := hide h3
          clear h3
          go_wp2_with fail
          refine (l04In_any b0 b1 b2 b3 l[k].asc l[k].dec _ _ _ _ K3.out.at0 K3.out.at1 K3.out.at2 K3.out.at3 f1.out f2.out).mono ?_
          rintro e w4 ⟨rfl, hb1⟩
          have hq4 := HQ.out
          have HV := hide (HW.out.below hb1)
          have HB := hide (Hb.out.trans (hb1.mono Hb.out.size))
          clear hb1
          have HN := hide (whI_miss HM.out)
          go_wp2
          go_roundw
          case rel => exact ⟨k + 1, by omega, by go_num, HB.out, A', c', by rw [HN.out], by rw [HN.out]; exact HV.out⟩
          case measure => simp [intOf]; omega
        · have HQ := hide (show hasB b0 b1 b2 b3 l[k].asc l[k].dec = true from by rw [← boxQ_at hlt, ← HQ0.out]; exact h3)
          have HM := hide h3
          clear h3
          go_wp2_with fail
          refine (l04In_any b0 b1 b2 b3 l[k].asc l[k].dec _ _ _ _ K3.out.at0 K3.out.at1 K3.out.at2 K3.out.at3 f1.out f2.out).mono ?_
          rintro e w4 ⟨rfl, hb1⟩
          have hq4 := HQ.out
          have HV := hide (HW.out.below hb1)
          have HB := hide (Hb.out.trans (hb1.mono Hb.out.size))
          clear hb1
          have HN := hide (whI_hit HM.out)
          go_wp2_with (at_builtin; refine wpList_append_own _ rfl _ _ 39 rfl w2.heap.size 2 i0 (.int .i64 0) 1 8 Try.underlying39 hi hz0 hz1 hz2 rfl (by decide) _ _ _ rfl (HV.out.alloc _) ⟨w4.heap.size, 0, none⟩ 1 1 [.int .i64 k] rfl rfl ?c1 ?c2 ?c3 ?c4 ?c5 ?_)
          case c1 => exact c1_new rfl
          case c2 => intro u hu; simp at hu; subst hu; rfl
          case c3 => have := whI_le (q := q) (n := k); unfold maxLen; omega
          case c4 => have := whI_le (q := q) (n := k); omega
          case c5 => have := HB.out.size; simp; omega
          intro v' w5 hown' hgrow _
          have hlen : (whI q k).length + 1 = (whI q (k + 1)).length := by rw [HN.out]; simp
          obtain ⟨A2, c2, rfl, hown2⟩ := Own.more (zs := ints (whI q (k + 1))) hown' hlen (by rw [HN.out, ints_app]; rfl)
          have HX := hide (And.intro hown2 hgrow)
          clear hown' hgrow hown2
          go_wp2
          go_roundw
          case rel =>
            obtain ⟨h1, h2⟩ := HX.out
            exact ⟨k + 1, by omega, by go_num, (HB.out.alloc HB.out.size _).grown h2 (by have := HB.out.size; simp; omega) (fun j hj => (HV.out.lt hj).1), A2, c2, rfl, h1⟩
          case measure => simp [intOf]; omega
      · obtain rfl : k = l.length := by omega
        clear hb
        go_wp2
        go_ret2
        exact ⟨A', c', rfl, HW.out.base B2.out.size, B2.out.trans (Hb.out.mono B2.out.size)⟩
set_option maxHeartbeats 2000000 in
set_option maxRecDepth 100000 in
theorem impl_InBox_any (A : Option Addr) (c : Nat) (l : List StarT) (b0 b1 b2 b3 : Int) (w : World) (hn : l.length ≤ 1048576) (hok : ∀ x ∈ l, x.ok) (hr : Rd w w.heap.size 5 A l.length (l.flatMap StarT.cells)) :
    Calls Try.prog 46 #[.slice A l.length c, .agg #[.int .i64 b0, .int .i64 b1, .int .i64 b2, .int .i64 b3]] w fun e w' => ∃ A' c', e = .returned (.tuple #[.slice A' (boxOf l b0 b1 b2 b3).1.length c', .int .i64 (boxOf l b0 b1 b2 b3).2]) ∧ Own w' w.heap.size 2 1 A' (boxOf l b0 b1 b2 b3).1.length c' (ints (boxOf l b0 b1 b2 b3).1) ∧ Below w.heap.size w w' := by
  obtain ⟨i0, hi, hz0, hz1, hz2⟩ := info_parts info_int
  have HR := hide hr
  have HO := hide hok
  clear hr hok
  have K0 : Kp w [(⟨w.heap.size, 0, none⟩, .slice A l.length c), (⟨w.heap.size + 1, 0, none⟩, .int .i64 b0), (⟨w.heap.size + 1, 1, none⟩, .int .i64 b1), (⟨w.heap.size + 1, 2, none⟩, .int .i64 b2), (⟨w.heap.size + 1, 3, none⟩, .int .i64 b3)] ((w.alloc (.cells #[.slice A l.length c] 33)).alloc (.cells #[.int .i64 b0, .int .i64 b1, .int .i64 b2, .int .i64 b3] 65)) := ⟨((Below.refl _ _).alloc (Nat.le_refl _) _).alloc (by simp) _, fun p hp => by
    simp only [List.mem_cons, List.not_mem_nil, or_false] at hp
    rcases hp with rfl | rfl | rfl | rfl | rfl
    all_goals refine ⟨?_, ?_⟩ <;> simp [go_sem]⟩
  cases h1 : validB starOk starLt 60 l
  · rw [show boxOf l b0 b1 b2 b3 = ([], 1) from by simp [boxOf, h1]]
    go_enter Try.func46, Try.ntmps46
    go_wp2_with fail
    refine (impl_ValidStars_any A c l _ hn HO.out ((HR.out.below K0.b).more K0.b.size)).mono ?_
    rintro e w1 ⟨rfl, b⟩
    have K1 := K0.below b
    have k0 := K1.at0
    have k1 := K1.at1
    have k2 := K1.at2
    have k3 := K1.at3
    have k4 := K1.at4
    have B1 := hide K1.b
    have HK1 := hide K1
    clear b K0 K1
    go_wp2
    go_ret2
    exact ⟨none, 0, rfl, Own.none_, B1.out⟩
  cases h2 : boxB b0 b1 b2 b3
  · rw [show boxOf l b0 b1 b2 b3 = ([], 1) from by simp [boxOf, h1, h2]]
    go_enter Try.func46, Try.ntmps46
    go_wp2_with fail
    refine (impl_ValidStars_any A c l _ hn HO.out ((HR.out.below K0.b).more K0.b.size)).mono ?_
    rintro e w1 ⟨rfl, b⟩
    have K1 := K0.below b
    have k0 := K1.at0
    have k1 := K1.at1
    have k2 := K1.at2
    have k3 := K1.at3
    have k4 := K1.at4
    have B1 := hide K1.b
    have HK1 := hide K1
    clear b K0 K1
    go_wp2_with (go_at_call 94; refine (impl_isBox_any _ _ _ _ _).mono ?_; rintro e w2 ⟨rfl, b2_⟩)
    go_ret2
    exact ⟨none, 0, rfl, Own.none_, B1.out.trans (b2_.mono B1.out.size)⟩
  · rw [show boxOf l b0 b1 b2 b3 = (whI (boxQ l b0 b1 b2 b3) l.length, 0) from by simp [boxOf, h1, h2]]
    go_enter Try.func46, Try.ntmps46
    go_wp2_with fail
    refine (impl_ValidStars_any A c l _ hn HO.out ((HR.out.below K0.b).more K0.b.size)).mono ?_
    rintro e w1 ⟨rfl, b⟩
    have K1 := K0.below b
    have k0 := K1.at0
    have k1 := K1.at1
    have k2 := K1.at2
    have k3 := K1.at3
    have k4 := K1.at4
    have B1 := hide K1.b
    have HK1 := hide K1
    clear b K0 K1
    go_wp2_with fail
    refine (impl_isBox_any _ _ _ _ _).mono ?_
    rintro e w2 ⟨rfl, b2_⟩
    have K2 := HK1.out.below b2_
    have B2 := hide K2.b
    have R2 := hide ((HR.out.below K2.b).more K2.b.size)
    have k0 := K2.at0
    have k1 := K2.at1
    have k2 := K2.at2
    have k3 := K2.at3
    have k4 := K2.at4
    have HK2 := hide K2
    clear b2_ K2
    go_wp2_with fail
    refine (indicesBox_any b0 b1 b2 b3 (w.heap.size + 1) w.heap.size A c l _ hn k1 k2 k3 k4 k0 R2.out).mono ?_
    rintro e w3 ⟨A', c', rfl, hown, hb⟩
    have HX := hide (And.intro hown hb)
    clear hown hb
    go_wp2
    go_ret2
    exact ⟨A', c', rfl, HX.out.1.base B2.out.size, B2.out.trans (HX.out.2.mono B2.out.size)⟩
theorem spec_InBox_val {l : List StarT} {b0 b1 b2 b3 : Int} {res : List Int} {code : Int} (hF : (res, code) = boxOf l b0 b1 b2 b3) (A : Option Addr) (c : Nat) (w : World) (hn : l.length ≤ 1048576) (hok : ∀ x ∈ l, x.ok) (hr : Rd w w.heap.size 5 A l.length (l.flatMap StarT.cells)) :
    Calls Try.prog 44 #[.slice A l.length c, .agg #[.int .i64 b0, .int .i64 b1, .int .i64 b2, .int .i64 b3]] w fun e w' => ∃ A' c', e = .returned (.tuple #[.slice A' res.length c', .int .i64 code]) ∧ Own w' w.heap.size 2 1 A' res.length c' (ints res) ∧ Below w.heap.size w w' := by
  have h := spec_InBox_any A c l b0 b1 b2 b3 w hn hok hr
  rw [← hF] at h
  exact h
theorem impl_InBox_val {l : List StarT} {b0 b1 b2 b3 : Int} {res : List Int} {code : Int} (hF : (res, code) = boxOf l b0 b1 b2 b3) (A : Option Addr) (c : Nat) (w : World) (hn : l.length ≤ 1048576) (hok : ∀ x ∈ l, x.ok) (hr : Rd w w.heap.size 5 A l.length (l.flatMap StarT.cells)) :
    Calls Try.prog 46 #[.slice A l.length c, .agg #[.int .i64 b0, .int .i64 b1, .int .i64 b2, .int .i64 b3]] w fun e w' => ∃ A' c', e = .returned (.tuple #[.slice A' res.length c', .int .i64 code]) ∧ Own w' w.heap.size 2 1 A' res.length c' (ints res) ∧ Below w.heap.size w w' := by
  have h := impl_InBox_any A c l b0 b1 b2 b3 w hn hok hr
  rw [← hF] at h
  exact h
theorem toBox_any (b0 b1 b2 b3 : Int) (w : World) : Calls Try.prog 45 #[.agg #[.int .i64 b0, .int .i64 b1, .int .i64 b2, .int .i64 b3]] w fun e w' => e = .returned (.agg #[.int .i64 b0, .int .i64 b1, .int .i64 b2, .int .i64 b3]) ∧ Below w.heap.size w w' := by
  go_enter Try.func45, Try.ntmps45
  go_wp2
  exact bodyPost_ret (v := .agg #[.int .i64 b0, .int .i64 b1, .int .i64 b2, .int .i64 b3]) (by simp [results, Try.results45, go_sem]) rfl ⟨rfl, (by repeat (first | exact Below.refl _ _ | assumption | refine Below.drew ?_ | refine below_drewN ?_ _ | refine Below.alloc ?_ (by first | omega | (simp; done) | (simp; omega)) _ | refine Below.setCell ?_ (by first | omega | (simp; done) | (simp; omega)) _ | refine Below.trans ?_ (Below.mono (by assumption) (by first | omega | (simp; done) | (simp; omega)))))⟩
theorem inbox2_end : True := trivial
end Go.Proofs.Ytldgelkgobocdaa
