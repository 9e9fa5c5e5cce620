/-
  Contracts: the stars that are visible at a magnitude.
-/
import Derived.Test.YtldgelkgobocdaaFilt
import Derived.Test.YtldgelkgobocdaaValS
import Derived.Test.YtldgelkgobocdaaNum
import Derived.Test.YtldgelkgobocdaaKp
import Derived.Deep.QuietTactic
import Derived.BigQuiet
import Derived.OwnWalk
import Derived.Laws.AppendOwn
import Derived.Outline
namespace Go.Proofs.Ytldgelkgobocdaa
open Go.RowKit Pl
set_option linter.unusedVariables false
set_option linter.unusedSimpArgs false
theorem Own.empty_ {lo : Nat} (w : World) (E : TypeId) (k : Nat) (h : lo ≤ w.heap.size) : Own (w.alloc (.cells #[] E)) lo E k (some ⟨w.heap.size, 0, none⟩) 0 0 [] :=
  Own.mk_ (by simp) (Nat.le_refl _) (by simp [maxLen]) h (Bk.new _ _ _) (by simp) (by simp)
theorem c1_new {w : World} {g : Nat} {E : TypeId} {us : List Value} (h : g = w.heap.size) : ∀ j u, us[j]? = some u → (w.alloc (.cells us.toArray E)).cell? ((⟨g, 0, none⟩ : Addr).add j) = some u := by
  intro j u hu
  subst h
  have hadd : (⟨w.heap.size, 0, none⟩ : Addr).add j = ⟨w.heap.size, j, none⟩ := by unfold Addr.add; split <;> simp_all
  rw [hadd, (Bk.new w E us.toArray).cell j]
  simpa using hu
theorem Own.drewN {w : World} {lo k n c : Nat} {E : TypeId} {A : Option Addr} {xs : List Value} (h : Own w lo E k A n c xs) (m : Nat) : Own (w.drewN m) lo E k A n c xs := h
def visQ (l : List StarT) (m : Int) (i : Nat) : Bool := match l[i]? with | some x => inB m x.bri x.fai | none => false
theorem visQ_at {l : List StarT} {m : Int} {i : Nat} (h : i < l.length) : visQ l m i = inB m l[i].bri l[i].fai := by simp [visQ, h]
def visOf (l : List StarT) (m : Int) : List Int × Int := if validB starOk starLt 60 l = true then (if inB m (-2000) 20000 = true then (whI (visQ l m) l.length, 0) else ([], 2)) else ([], 1)
theorem visOf_le (l : List StarT) (m : Int) : (visOf l m).1.length ≤ l.length := by
  unfold visOf
  split <;> (try split) <;> (try exact whI_le) <;> simp
set_option maxHeartbeats 2000000 in
set_option maxRecDepth 100000 in
theorem spec_VisibleAt_any (A : Option Addr) (c : Nat) (l : List StarT) (m : Int) (w : World) (hn : l.length ≤ 1048576) (hok : ∀ x ∈ l, x.ok) (hr : Rd w w.heap.size 5 A l.length (l.flatMap StarT.cells)) :
    Calls Try.prog 27 #[.slice A l.length c, .int .i64 m] w fun e w' => ∃ A' c', e = .returned (.tuple #[.slice A' (visOf l m).1.length c', .int .i64 (visOf l m).2]) ∧ Own w' w.heap.size 2 1 A' (visOf l m).1.length c' (ints (visOf l m).1) ∧ Below w.heap.size w w' := by
  obtain ⟨i0, hi, hz0, hz1, hz2⟩ := info_parts info_int
  have HR := hide hr
  have HO := hide hok
  clear hr hok
  cases h1 : validB starOk starLt 60 l
  · rw [show visOf l m = ([], 1) from by simp [visOf, h1]]
    go_enter Try.func27, Try.ntmps27
    go_wp2_with fail
    refine (l04Ok_any A c l _ hn HO.out HR.out).mono ?_
    rintro e w1 ⟨rfl, b⟩
    go_wp2
    go_ret2
    exact ⟨none, 0, rfl, Own.none_, b⟩
  cases h2 : inB m (-2000) 20000
  · rw [show visOf l m = ([], 2) from by simp [visOf, h1, h2]]
    go_enter Try.func27, Try.ntmps27
    go_wp2_with fail
    refine (l04Ok_any A c l _ hn HO.out HR.out).mono ?_
    rintro e w1 ⟨rfl, b⟩
    go_wp2_with (go_at_call 75; refine (spec_l02Mag_any _ _).mono ?_; rintro e w' ⟨rfl, rfl⟩)
    go_ret2
    exact ⟨none, 0, rfl, Own.none_, b⟩
  rw [show visOf l m = (whI (visQ l m) l.length, 0) from by simp [visOf, h1, h2]]
  obtain ⟨q, hq⟩ : ∃ q, q = visQ l m := ⟨_, rfl⟩
  have HQ0 := hide hq
  rw [← hq]
  clear hq
  go_enter Try.func27, Try.ntmps27
  go_wp2_with fail
  refine (l04Ok_any A c l _ hn HO.out HR.out).mono ?_
  rintro e w1 ⟨rfl, b⟩
  have B1 := hide b
  have R1 := hide ((HR.out.below b).more b.size)
  clear b
  go_wp2_with (go_at_call 75; refine (spec_l02Mag_any _ _).mono ?_; rintro e w' ⟨rfl, rfl⟩)
  go_loopw [6, 7] (fun v i wr => ∃ k : Nat, k ≤ l.length ∧ i = .int .i64 k ∧ Below w1.heap.size w1 wr ∧ ∃ A' c', v = .slice A' (whI q k).length c' ∧ Own wr w1.heap.size 2 1 A' (whI q k).length c' (ints (whI q k))) (fun _ i _ => l.length - (intOf i).toNat)
  case atStart => exact ⟨0, by omega, rfl, (Below.refl _ _).alloc (Nat.le_refl _) _, _, _, rfl, Own.empty_ _ _ _ (Nat.le_refl _)⟩
  case round =>
    obtain ⟨k, hk, rfl, hb, A', c', rfl, hown⟩ := hrel
    have Hb := hide hb
    have HW := hide hown
    clear hown
    by_cases hlt : k < l.length
    · obtain ⟨g, off, rfl, hg, hc⟩ := R1.out.elem StarT.cells_len hlt
      have f3 : wr.cell? ⟨g, off + k * 5 + 3, none⟩ = some (.int .i64 l[k].bri) := (hb.cell (p := ⟨g, off + k * 5 + 3, none⟩) hg).trans (hc 3 _ rfl)
      have f4 : wr.cell? ⟨g, off + k * 5 + 4, none⟩ = some (.int .i64 l[k].fai) := (hb.cell (p := ⟨g, off + k * 5 + 4, none⟩) hg).trans (hc 4 _ rfl)
      have i1 : (0 : Int) ≤ (k : Int) := by omega
      have i2 : (k : Int) < (l.length : Int) := by omega
      have HE := hide (show q k = inB m l[k].bri l[k].fai from by rw [HQ0.out]; exact visQ_at hlt)
      clear hc hb
      cases h3 : inB m l[k].bri l[k].fai
      · have HQ := hide h3
        have HM := hide (whI_miss (HE.out.trans h3))
        clear h3
        go_wp2_with fail
        go_quiet ((go_at_call 77; with_reducible first | exact qsame (l00In_bit HQ.out _) | exact qadd (l00In_bit HQ.out _)))
        go_wp2
        go_roundw
        case rel => exact ⟨k + 1, by omega, by go_num, below_drewN Hb.out _, A', c', by rw [HM.out], by rw [HM.out]; exact HW.out⟩
        case measure => simp [intOf]; omega
      · have HQ := hide h3
        have HM := hide (whI_hit (HE.out.trans h3))
        clear h3
        go_wp2_with fail
        go_quiet ((go_at_call 77; with_reducible first | exact qsame (l00In_bit HQ.out _) | exact qadd (l00In_bit HQ.out _)))
        go_wp2_with (at_builtin; refine wpList_append_own _ rfl _ _ 39 rfl w1.heap.size 2 i0 (.int .i64 0) 1 8 Try.underlying39 hi hz0 hz1 hz2 rfl (by decide) _ _ _ rfl ((Own.drewN HW.out _).alloc _) ⟨wr.heap.size, 0, none⟩ 1 1 [.int .i64 k] rfl rfl ?c1 ?c2 ?c3 ?c4 ?c5 ?_)
        case c1 => exact c1_new rfl
        case c2 => intro u hu; simp at hu; subst hu; rfl
        case c3 => have := whI_le (q := q) (n := k); unfold maxLen; omega
        case c4 => have := whI_le (q := q) (n := k); omega
        case c5 => have := Hb.out.size; have := B1.out.size; simp; omega
        intro v' w2 hown' hgrow _
        have hlen : (whI q k).length + 1 = (whI q (k + 1)).length := by rw [HM.out]; simp
        obtain ⟨A2, c2, rfl, hown2⟩ := Own.more (zs := ints (whI q (k + 1))) hown' hlen (by rw [HM.out, ints_app]; rfl)
        have HX := hide (And.intro hown2 hgrow)
        clear hown' hgrow hown2
        go_wp2
        go_roundw
        case rel =>
          obtain ⟨h1, h2⟩ := HX.out
          exact ⟨k + 1, by omega, by go_num, ((below_drewN Hb.out _).alloc Hb.out.size _).grown h2 (by have := Hb.out.size; simp; omega) (fun j hj => (HW.out.lt hj).1), A2, c2, rfl, h1⟩
        case measure => simp [intOf]; omega
    · obtain rfl : k = l.length := by omega
      clear hb
      go_wp2
      go_ret2
      exact ⟨A', c', rfl, HW.out.base B1.out.size, B1.out.trans (Hb.out.mono B1.out.size)⟩
theorem cloVis_any (A : Option Addr) (c : Nat) (l : List StarT) (m : Int) (g1 g2 i : Nat) (b : Bool) (w : World) (hn : l.length ≤ 1048576) (hlt : i < l.length) (h1 : w.cell? ⟨g1, 0, none⟩ = some (.int .i64 m)) (h2 : w.cell? ⟨g2, 0, none⟩ = some (.slice A l.length c)) (hr : Rd w w.heap.size 5 A l.length (l.flatMap StarT.cells)) (hq : visQ l m i = b) :
    Calls Try.prog 79 #[.int .i64 i, .pointer (some ⟨g1, 0, none⟩), .pointer (some ⟨g2, 0, none⟩)] w fun e w' => e = .returned (.bool b) ∧ Below w.heap.size w w' := by
  rw [visQ_at hlt] at hq
  obtain ⟨g, off, rfl, hg, hc⟩ := hr.elem StarT.cells_len hlt
  have f3 := hc 3 _ rfl
  have f4 := hc 4 _ rfl
  have i1 : (0 : Int) ≤ (i : Int) := by omega
  have i2 : (i : Int) < (l.length : Int) := by omega
  have HQ := hide hq
  clear hq hc hr
  go_enter Try.func79, Try.ntmps79
  go_wp2_with fail
  go_quiet ((go_at_call 80; with_reducible first | exact qsame (in_bit HQ.out _) | exact qadd (in_bit HQ.out _)))
  go_wp2
  go_ret
  exact ⟨rfl, (by repeat (first | exact Below.refl _ _ | assumption | refine Below.drew ?_ | refine below_drewN ?_ _ | refine Below.alloc ?_ (by first | omega | (simp; done) | (simp; omega)) _ | refine Below.setCell ?_ (by first | omega | (simp; done) | (simp; omega)) _ | refine Below.trans ?_ (Below.mono (by assumption) (by first | omega | (simp; done) | (simp; omega)))))⟩
set_option maxHeartbeats 2000000 in
set_option maxRecDepth 100000 in
theorem indicesVis_any (m : Int) (g1 g2 : Nat) (A : Option Addr) (c : Nat) (l : List StarT) (w : World) (hn : l.length ≤ 1048576) (h1 : w.cell? ⟨g1, 0, none⟩ = some (.int .i64 m)) (h2 : w.cell? ⟨g2, 0, none⟩ = some (.slice A l.length c)) (hr : Rd w w.heap.size 5 A l.length (l.flatMap StarT.cells)) :
    Calls Try.prog 78 #[.int .i64 l.length, .func (.func 79) #[] #[.pointer (some ⟨g1, 0, none⟩), .pointer (some ⟨g2, 0, none⟩)]] w fun e w' => ∃ A' c', e = .returned (.slice A' (whI (visQ l m) l.length).length c') ∧ Own w' w.heap.size 2 1 A' (whI (visQ l m) l.length).length c' (ints (whI (visQ l m) l.length)) ∧ Below w.heap.size w w' := by
  obtain ⟨i0, hi, hz0, hz1, hz2⟩ := info_parts info_int
  obtain ⟨q, hq⟩ : ∃ q, q = visQ l m := ⟨_, rfl⟩
  have HQ0 := hide hq
  rw [← hq]
  clear hq
  have HR := hide hr
  clear hr
  have zh1 := World.block_lt_of_cell? w _ h1
  have Hh1 := hide h1
  have zh2 := World.block_lt_of_cell? w _ h2
  have Hh2 := hide h2
  clear h1 h2
  go_enter Try.func78, Try.ntmps78
  go_wp2_with fail
  go_loopw [5, 9] (fun v i wr => ∃ k : Nat, k ≤ l.length ∧ i = .int .i64 k ∧ Below w.heap.size w wr ∧ ∃ A' c', v = .slice A' (whI q k).length c' ∧ Own wr w.heap.size 2 1 A' (whI q k).length c' (ints (whI q k))) (fun _ i _ => l.length - (intOf i).toNat)
  case atStart => exact ⟨0, by omega, rfl, (Below.refl _ _).alloc (Nat.le_refl _) _, _, _, rfl, Own.empty_ _ _ _ (Nat.le_refl _)⟩
  case round =>
    obtain ⟨k, hk, rfl, hb, A', c', rfl, hown⟩ := hrel
    have Hb := hide hb
    have HW := hide hown
    clear hown
    by_cases hlt : k < l.length
    · have i1 : (0 : Int) ≤ (k : Int) := by omega
      have i2 : (k : Int) < (l.length : Int) := by omega
      have R := hide ((HR.out.below hb).more hb.size)
      have Ch1 := hide ((hb.cell (p := ⟨g1, 0, none⟩) zh1).trans Hh1.out)
      have Ch2 := hide ((hb.cell (p := ⟨g2, 0, none⟩) zh2).trans Hh2.out)
      clear hb
      cases h3 : q k
      · have HQ := hide (show visQ l m k = false from by rw [← HQ0.out]; exact h3)
        have HM := hide h3
        clear h3
        go_wp2_with fail
        refine (cloVis_any A c l m g1 g2 k _ _ hn hlt Ch1.out Ch2.out R.out HQ.out).mono ?_
        rintro e w1 ⟨rfl, hb1⟩
        have hsz1 : wr.heap.size ≤ w1.heap.size := hb1.size
        have HV := hide (HW.out.below hb1)
        have HB := hide (Hb.out.trans (hb1.mono Hb.out.size))
        clear hb1
        have HN := hide (whI_miss HM.out)
        go_wp2
        go_roundw
        case rel => exact ⟨k + 1, by omega, by go_num, HB.out, A', c', by rw [HN.out], by rw [HN.out]; exact HV.out⟩
        case measure => simp [intOf]; omega
      · have HQ := hide (show visQ l m k = true from by rw [← HQ0.out]; exact h3)
        have HM := hide h3
        clear h3
        go_wp2_with fail
        refine (cloVis_any A c l m g1 g2 k _ _ hn hlt Ch1.out Ch2.out R.out HQ.out).mono ?_
        rintro e w1 ⟨rfl, hb1⟩
        have hsz1 : wr.heap.size ≤ w1.heap.size := hb1.size
        have HV := hide (HW.out.below hb1)
        have HB := hide (Hb.out.trans (hb1.mono Hb.out.size))
        clear hb1
        have HN := hide (whI_hit HM.out)
        go_wp2_with (at_builtin; refine wpList_append_own _ rfl _ _ 39 rfl w.heap.size 2 i0 (.int .i64 0) 1 8 Try.underlying39 hi hz0 hz1 hz2 rfl (by decide) _ _ _ rfl (HV.out.alloc _) ⟨w1.heap.size, 0, none⟩ 1 1 [.int .i64 k] rfl rfl ?c1 ?c2 ?c3 ?c4 ?c5 ?_)
        case c1 => exact c1_new rfl
        case c2 => intro u hu; simp at hu; subst hu; rfl
        case c3 => have := whI_le (q := q) (n := k); unfold maxLen; omega
        case c4 => have := whI_le (q := q) (n := k); omega
        case c5 => have := HB.out.size; simp; omega
        intro v' w2 hown' hgrow _
        have hlen : (whI q k).length + 1 = (whI q (k + 1)).length := by rw [HN.out]; simp
        obtain ⟨A2, c2, rfl, hown2⟩ := Own.more (zs := ints (whI q (k + 1))) hown' hlen (by rw [HN.out, ints_app]; rfl)
        have HX := hide (And.intro hown2 hgrow)
        clear hown' hgrow hown2
        go_wp2
        go_roundw
        case rel =>
          obtain ⟨h1, h2⟩ := HX.out
          exact ⟨k + 1, by omega, by go_num, (HB.out.alloc HB.out.size _).grown h2 (by have := HB.out.size; simp; omega) (fun j hj => (HV.out.lt hj).1), A2, c2, rfl, h1⟩
        case measure => simp [intOf]; omega
    · obtain rfl : k = l.length := by omega
      clear hb
      go_wp2
      go_ret
      exact ⟨A', c', rfl, HW.out, Hb.out⟩
set_option maxHeartbeats 2000000 in
theorem impl_VisibleAt_any (A : Option Addr) (c : Nat) (l : List StarT) (m : Int) (w : World) (hn : l.length ≤ 1048576) (hok : ∀ x ∈ l, x.ok) (hr : Rd w w.heap.size 5 A l.length (l.flatMap StarT.cells)) :
    Calls Try.prog 28 #[.slice A l.length c, .int .i64 m] w fun e w' => ∃ A' c', e = .returned (.tuple #[.slice A' (visOf l m).1.length c', .int .i64 (visOf l m).2]) ∧ Own w' w.heap.size 2 1 A' (visOf l m).1.length c' (ints (visOf l m).1) ∧ Below w.heap.size w w' := by
  have HR := hide hr
  have HO := hide hok
  clear hr hok
  have K0 : Kp w [(⟨w.heap.size, 0, none⟩, .slice A l.length c), (⟨w.heap.size + 1, 0, none⟩, .int .i64 m)] ((w.alloc (.cells #[.slice A l.length c] 33)).alloc (.cells #[.int .i64 m] 2)) := ⟨((Below.refl _ _).alloc (Nat.le_refl _) _).alloc (by simp) _, fun p hp => by
    simp only [List.mem_cons, List.not_mem_nil, or_false] at hp
    rcases hp with rfl | rfl
    · refine ⟨?_, ?_⟩ <;> simp [go_sem]
    · refine ⟨?_, ?_⟩ <;> simp [go_sem]⟩
  cases h1 : validB starOk starLt 60 l
  · rw [show visOf l m = ([], 1) from by simp [visOf, h1]]
    go_enter Try.func28, Try.ntmps28
    go_wp2_with fail
    refine (impl_ValidStars_any A c l _ hn HO.out ((HR.out.below K0.b).more K0.b.size)).mono ?_
    rintro e w1 ⟨rfl, b⟩
    have K1 := K0.below b
    have k0 := K1.at0
    have k1 := K1.at1
    have B1 := hide K1.b
    have R1 := hide ((HR.out.below K1.b).more K1.b.size)
    clear b K0
    go_wp2
    go_ret2
    exact ⟨none, 0, rfl, Own.none_, B1.out⟩
  cases h2 : inB m (-2000) 20000
  · rw [show visOf l m = ([], 2) from by simp [visOf, h1, h2]]
    go_enter Try.func28, Try.ntmps28
    go_wp2_with fail
    refine (impl_ValidStars_any A c l _ hn HO.out ((HR.out.below K0.b).more K0.b.size)).mono ?_
    rintro e w1 ⟨rfl, b⟩
    have K1 := K0.below b
    have k0 := K1.at0
    have k1 := K1.at1
    have B1 := hide K1.b
    have R1 := hide ((HR.out.below K1.b).more K1.b.size)
    clear b K0
    go_wp2_with (go_at_call 76; refine (impl_ValidMag_any _ _).mono ?_; rintro e w' ⟨rfl, rfl⟩)
    go_ret2
    exact ⟨none, 0, rfl, Own.none_, B1.out⟩
  · rw [show visOf l m = (whI (visQ l m) l.length, 0) from by simp [visOf, h1, h2]]
    go_enter Try.func28, Try.ntmps28
    go_wp2_with fail
    refine (impl_ValidStars_any A c l _ hn HO.out ((HR.out.below K0.b).more K0.b.size)).mono ?_
    rintro e w1 ⟨rfl, b⟩
    have K1 := K0.below b
    have k0 := K1.at0
    have k1 := K1.at1
    have B1 := hide K1.b
    have R1 := hide ((HR.out.below K1.b).more K1.b.size)
    clear b K0
    go_wp2_with (go_at_call 76; refine (impl_ValidMag_any _ _).mono ?_; rintro e w' ⟨rfl, rfl⟩)
    refine (indicesVis_any m (w.heap.size + 1) w.heap.size A c l _ hn k1 k0 R1.out).mono ?_
    rintro e w2 ⟨A', c', rfl, hown, hb⟩
    have HX := hide (And.intro hown hb)
    clear hown hb
    go_wp2
    go_ret2
    exact ⟨A', c', rfl, HX.out.1.base B1.out.size, B1.out.trans (HX.out.2.mono B1.out.size)⟩
theorem spec_VisibleAt_val {l : List StarT} {m : Int} {res : List Int} {code : Int} (hF : (res, code) = visOf l m) (A : Option Addr) (c : Nat) (w : World) (hn : l.length ≤ 1048576) (hok : ∀ x ∈ l, x.ok) (hr : Rd w w.heap.size 5 A l.length (l.flatMap StarT.cells)) :
    Calls Try.prog 27 #[.slice A l.length c, .int .i64 m] w fun e w' => ∃ A' c', e = .returned (.tuple #[.slice A' res.length c', .int .i64 code]) ∧ Own w' w.heap.size 2 1 A' res.length c' (ints res) ∧ Below w.heap.size w w' := by
  have h := spec_VisibleAt_any A c l m w hn hok hr
  rw [← hF] at h
  exact h
theorem impl_VisibleAt_val {l : List StarT} {m : Int} {res : List Int} {code : Int} (hF : (res, code) = visOf l m) (A : Option Addr) (c : Nat) (w : World) (hn : l.length ≤ 1048576) (hok : ∀ x ∈ l, x.ok) (hr : Rd w w.heap.size 5 A l.length (l.flatMap StarT.cells)) :
    Calls Try.prog 28 #[.slice A l.length c, .int .i64 m] w fun e w' => ∃ A' c', e = .returned (.tuple #[.slice A' res.length c', .int .i64 code]) ∧ Own w' w.heap.size 2 1 A' res.length c' (ints res) ∧ Below w.heap.size w w' := by
  have h := impl_VisibleAt_any A c l m w hn hok hr
  rw [← hF] at h
  exact h
theorem vis_end : True := trivial
end Go.Proofs.Ytldgelkgobocdaa
