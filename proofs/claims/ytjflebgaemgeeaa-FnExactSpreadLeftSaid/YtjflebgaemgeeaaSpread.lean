/-
  Contracts: the greatest difference that shifts leave.
-/
import Derived.Test.YtjflebgaemgeeaaCom
import Derived.Test.YtjflebgaemgeeaaInts
import Derived.Test.YtjflebgaemgeeaaMinMax
import Derived.BigQuiet
namespace Go.Proofs.Ytjflebgaemgeeaa
open Go.RowKit Pl
set_option linter.unusedVariables false
set_option linter.unusedSimpArgs false
def shAt (sh : List Int) (i : Int) : Int := sh.getD i.toNat 0
theorem shAt_nat {sh : List Int} {p : Nat} (h : p < sh.length) : shAt sh (p : Int) = sh[p]'h := by
  unfold shAt; rw [Int.toNat_natCast, List.getD_eq_getElem?_getD, List.getElem?_eq_getElem h]; rfl
def leftTo (l : List ComT) (sh : List Int) : Nat → Int
  | 0 => 0
  | k + 1 => match l[k]? with | some x => maxI (leftTo l sh k) (absI (x.diff + shAt sh x.b - shAt sh x.a)) | none => 0
theorem leftTo_succ {l : List ComT} {sh : List Int} {k : Nat} (h : k < l.length) : leftTo l sh (k + 1) = maxI (leftTo l sh k) (absI ((l[k]'h).diff + shAt sh (l[k]'h).b - shAt sh (l[k]'h).a)) := by
  simp only [leftTo]; rw [List.getElem?_eq_getElem h]
def spreadOf (n : Int) (l : List ComT) (sh : List Int) : Int × Int :=
  if comsB n l = true then (if (sh.length : Int) = n ∧ allI (-100000) 100000 sh = true then (leftTo l sh l.length, 0) else (0, 2)) else (0, 1)
theorem l05Shifts_any (A : Option Addr) (c : Nat) (l : List Int) (m : Int) (w : World) (hm : 0 ≤ m) (hm2 : m ≤ 1000000) (hl : l.length ≤ 1048576) (hr : Rd w w.heap.size 1 A l.length (ints l)) :
    Calls Try.prog 60 #[.slice A l.length c, .int .i64 m] w fun e w' => e = .returned (.bool (allI (-m) m l)) ∧ w = w' := by
  go_enter Try.func60, Try.ntmps60
  go_wp2
  go_loop [5] (fun i => ∃ k : Nat, k ≤ l.length ∧ i = .int .i64 k ∧ Hid (∀ j (h : j < k) (h' : j < l.length), inB (l[j]'h') (-m) m = true)) (fun i => l.length - (intOf i).toNat)
  case atStart => exact ⟨0, by omega, rfl, fun j hj => absurd hj (by omega)⟩
  case round =>
    obtain ⟨k, hk, rfl, hs⟩ := hrel
    by_cases hlt : k < l.length
    · obtain ⟨g, off, rfl, hg, hc⟩ := hr.int hlt
      clear hr
      cases hb : inB l[k] (-m) m
      · go_wp2_with (go_at_call 88; refine (l00In_any _ _ _ _).mono ?_; rintro e w' ⟨rfl, rfl⟩)
        go_ret
        refine ⟨ret_bool ?_, rfl⟩
        cases hm : allI (-m) m l
        · rfl
        · have := allI_at hm hlt; rw [hb] at this; cases this
      · go_wp2_with (go_at_call 88; refine (l00In_any _ _ _ _).mono ?_; rintro e w' ⟨rfl, rfl⟩)
        go_round
        case rel =>
          refine ⟨k + 1, by omega, by go_num, fun j hj hj' => ?_⟩
          rcases Nat.lt_or_ge j k with h0 | h0
          · exact hs.out j h0 hj'
          · have : j = k := by omega
            subst this; exact hb
        case measure => simp [intOf]; omega
    · obtain rfl : k = l.length := by omega
      clear hr
      go_wp2
      go_ret
      refine ⟨ret_bool ?_, rfl⟩
      unfold allI
      symm
      rw [List.all_eq_true]
      intro x hx
      obtain ⟨i, hi, rfl⟩ := List.mem_iff_getElem.1 hx
      exact hs.out i hi hi
set_option maxHeartbeats 2000000 in
theorem impl_SpreadLeft_any (n : Int) (A : Option Addr) (c : Nat) (l : List ComT) (A2 : Option Addr) (c2 : Nat) (sh : List Int) (w : World) (hl : l.length ≤ 1048576) (hl2 : sh.length ≤ 1048576) (hr : Rd w w.heap.size 3 A l.length (l.flatMap ComT.cells)) (hr2 : Rd w w.heap.size 1 A2 sh.length (ints sh)) :
    Calls Try.prog 22 #[.int .i64 n, .slice A l.length c, .slice A2 sh.length c2] w fun e w' => e = .returned (.tuple #[.int .i64 (spreadOf n l sh).1, .int .i64 (spreadOf n l sh).2]) ∧ Below w.heap.size w w' := by
  have HR := hide hr
  have HS := hide hr2
  clear hr hr2
  cases h1 : comsB n l
  · go_enter Try.func22, Try.ntmps22
    go_wp2_with fail
    refine (impl_ValidCommons_any A c _ l _ hl HR.out).mono ?_
    rintro e w1 ⟨rfl, b⟩
    have B1 := hide b
    have S1 := hide ((HS.out.below b).more b.size)
    have R1 := hide ((HR.out.below b).more b.size)
    have z1 := b.size
    clear b
    go_wp2
    go_ret2
    exact ⟨ret2 (by simp [spreadOf, h1]), B1.out⟩
  by_cases h2 : (sh.length : Int) = n
  case neg =>
    have e1 : ((sh.length : Int) == n) = false := by simpa using h2
    have H2 := hide h2
    clear h2
    go_enter Try.func22, Try.ntmps22
    go_wp2_with fail
    refine (impl_ValidCommons_any A c _ l _ hl HR.out).mono ?_
    rintro e w1 ⟨rfl, b⟩
    have B1 := hide b
    have S1 := hide ((HS.out.below b).more b.size)
    have R1 := hide ((HR.out.below b).more b.size)
    have z1 := b.size
    clear b
    go_wp2
    go_ret2
    exact ⟨ret2 (by have := H2.out; simp [spreadOf, h1, this]), B1.out⟩
  subst h2
  cases h3 : allI (-100000) 100000 sh
  · go_enter Try.func22, Try.ntmps22
    go_wp2_with fail
    refine (impl_ValidCommons_any A c _ l _ hl HR.out).mono ?_
    rintro e w1 ⟨rfl, b⟩
    have B1 := hide b
    have S1 := hide ((HS.out.below b).more b.size)
    have R1 := hide ((HR.out.below b).more b.size)
    have z1 := b.size
    clear b
    go_wp2_with (go_at_call 63; refine (allIn_any A2 c2 sh _ _ _ hl2 S1.out).mono ?_; rintro e w2 ⟨rfl, b2⟩)
    go_ret2
    exact ⟨ret2 (by simp [spreadOf, h1, h3]), B1.out.trans (b2.mono B1.out.size)⟩
  obtain ⟨n1, n2, n3, n4⟩ := coms_true h1
  have N4 := hide n4
  have H3 := hide h3
  clear n4
  have P1 := hide (show spreadOf sh.length l sh = (leftTo l sh l.length, 0) from by rw [spreadOf, if_pos h1, if_pos ⟨rfl, h3⟩])
  go_enter Try.func22, Try.ntmps22
  go_wp2_with fail
  refine (impl_ValidCommons_any A c _ l _ hl HR.out).mono ?_
  rintro e w1 ⟨rfl, b⟩
  have B1 := hide b
  have S1 := hide ((HS.out.below b).more b.size)
  have R1 := hide ((HR.out.below b).more b.size)
  have z1 := b.size
  clear b
  go_wp2_with (go_at_call 63; refine (allIn_any A2 c2 sh _ _ _ hl2 S1.out).mono ?_; rintro e w2 ⟨rfl, b2⟩)
  have B2 := hide (B1.out.trans (b2.mono B1.out.size))
  have S2 := hide ((S1.out.below b2).more b2.size)
  have R2 := hide ((R1.out.below b2).more b2.size)
  clear B1 S1 R1 b2
  go_loopw [8, 28] (fun s i wr => ∃ k : Nat, k ≤ l.length ∧ i = .int .i64 k ∧ s = .int .i64 (leftTo l sh k) ∧ Below w2.heap.size w2 wr) (fun _ i _ => l.length - (intOf i).toNat)
  case atStart => exact ⟨0, by omega, rfl, rfl, Below.refl _ _⟩
  case round =>
    obtain ⟨k, hk, rfl, rfl, hb⟩ := hrel
    by_cases hlt : k < l.length
    · obtain ⟨a1, a2, b1, b2, ab, d1, d2⟩ := N4.out k hlt
      have hs := hide (leftTo_succ (sh := sh) hlt)
      obtain ⟨g, off, rfl, hg, hc⟩ := R2.out.elem ComT.cells_len hlt
      obtain ⟨p, hp⟩ := Int.eq_ofNat_of_zero_le a1
      obtain ⟨q, hq⟩ := Int.eq_ofNat_of_zero_le b1
      have hpl : p < sh.length := by omega
      have hql : q < sh.length := by omega
      obtain ⟨g2, off2, rfl, hg2, hcp⟩ := S2.out.int hpl
      obtain ⟨g3, off3, he, hg3, hcq⟩ := S2.out.int hql
      injection he with he
      injection he with he1 he2 _
      subst he1 he2
      have hxp := inB_true (allI_at H3.out hpl)
      have hxq := inB_true (allI_at H3.out hql)
      obtain ⟨xp1, xp2⟩ := hxp
      obtain ⟨xq1, xq2⟩ := hxq
      rw [hp, hq, shAt_nat hpl, shAt_nat hql] at hs
      have f0 : wr.cell? ⟨g, off + k * 3, none⟩ = some (.int .i64 (p : Int)) := (hb.cell (p := ⟨g, off + k * 3, none⟩) hg).trans (hp ▸ hc 0 _ rfl)
      have f1 : wr.cell? ⟨g, off + k * 3 + 1, none⟩ = some (.int .i64 (q : Int)) := (hb.cell (p := ⟨g, off + k * 3 + 1, none⟩) hg).trans (hq ▸ hc 1 _ rfl)
      have f2 : wr.cell? ⟨g, off + k * 3 + 2, none⟩ = some (.int .i64 l[k].diff) := (hb.cell (p := ⟨g, off + k * 3 + 2, none⟩) hg).trans (hc 2 _ rfl)
      have hz : g2 < wr.heap.size := by have := hb.size; omega
      have hA : Below wr.heap.size wr (wr.alloc (.cells #[.int .i64 (p : Int), .int .i64 (q : Int), .int .i64 l[k].diff] 77)) := (Below.refl _ _).alloc (Nat.le_refl _) _
      have hp0 : wr.cell? ⟨g2, off2 + p, none⟩ = some (.int .i64 sh[p]) := (hb.cell (p := ⟨g2, off2 + p, none⟩) hg2).trans hcp
      have hq0 : wr.cell? ⟨g2, off2 + q, none⟩ = some (.int .i64 sh[q]) := (hb.cell (p := ⟨g2, off2 + q, none⟩) hg2).trans hcq
      have hp1 := (hA.cell (p := ⟨g2, off2 + p, none⟩) hz).trans hp0
      have hq1 := (hA.cell (p := ⟨g2, off2 + q, none⟩) hz).trans hq0
      have BB := hide (B2.out.trans (hb.mono B2.out.size))
      have HB := hide hb
      clear hcp hcq hb
      have i1 : (0 : Int) ≤ (k : Int) := by omega
      have i2 : (k : Int) < (l.length : Int) := by omega
      have i3 : (0 : Int) ≤ (p : Int) := by omega
      have i4 : (p : Int) < (sh.length : Int) := by omega
      have i5 : (0 : Int) ≤ (q : Int) := by omega
      have i6 : (q : Int) < (sh.length : Int) := by omega
      clear hc a1 a2 b1 b2 ab hp hq
      by_cases hle : absI (l[k].diff + sh[q] - sh[p]) < leftTo l sh k
      · have HT := hide (show leftTo l sh (k + 1) = leftTo l sh k from by rw [hs.out, maxI, if_pos hle])
        clear hs
        go_wp2_with fail
        go_quiet ((go_at_call 64; with_reducible first | exact qsame (abs_any _ _ (by omega) (by omega)) | exact qadd (abs_any _ _ (by omega) (by omega))))
        go_wp2
        go_roundw
        case rel => exact ⟨k + 1, by omega, by go_num, by first | (rw [HT.out]; done) | (rw [HT.out]; congr 1; split <;> omega), below_drewN (HB.out.alloc HB.out.size _) _⟩
        case measure => simp [intOf]; omega
      · have HT := hide (show leftTo l sh (k + 1) = absI (l[k].diff + sh[q] - sh[p]) from by rw [hs.out, maxI, if_neg hle])
        clear hs
        go_wp2_with fail
        go_quiet ((go_at_call 64; with_reducible first | exact qsame (abs_any _ _ (by omega) (by omega)) | exact qadd (abs_any _ _ (by omega) (by omega))))
        go_wp2
        go_roundw
        case rel => exact ⟨k + 1, by omega, by go_num, by first | (rw [HT.out]; done) | (rw [HT.out]; congr 1; split <;> omega), below_drewN (HB.out.alloc HB.out.size _) _⟩
        case measure => simp [intOf]; omega
    · obtain rfl : k = l.length := by omega
      go_wp2
      go_ret2
      exact ⟨ret2 P1.out, B2.out.trans (hb.mono B2.out.size)⟩
set_option maxHeartbeats 2000000 in
theorem spec_SpreadLeft_any (n : Int) (A : Option Addr) (c : Nat) (l : List ComT) (A2 : Option Addr) (c2 : Nat) (sh : List Int) (w : World) (hl : l.length ≤ 1048576) (hl2 : sh.length ≤ 1048576) (hr : Rd w w.heap.size 3 A l.length (l.flatMap ComT.cells)) (hr2 : Rd w w.heap.size 1 A2 sh.length (ints sh)) :
    Calls Try.prog 20 #[.int .i64 n, .slice A l.length c, .slice A2 sh.length c2] w fun e w' => e = .returned (.tuple #[.int .i64 (spreadOf n l sh).1, .int .i64 (spreadOf n l sh).2]) ∧ Below w.heap.size w w' := by
  have HR := hide hr
  have HS := hide hr2
  clear hr hr2
  cases h1 : comsB n l
  · go_enter Try.func20, Try.ntmps20
    go_wp2_with fail
    refine (l05Commons_any A c _ l _ hl HR.out).mono ?_
    rintro e w1 ⟨rfl, k0, rfl⟩
    have b : Below w.heap.size w (w.drewN k0) := below_drewN (Below.refl _ _) _
    generalize w.drewN k0 = w1 at b ⊢
    have B1 := hide b
    have S1 := hide ((HS.out.below b).more b.size)
    have R1 := hide ((HR.out.below b).more b.size)
    have z1 := b.size
    clear b
    go_wp2
    go_ret2
    exact ⟨ret2 (by simp [spreadOf, h1]), B1.out⟩
  by_cases h2 : (sh.length : Int) = n
  case neg =>
    have e1 : ((sh.length : Int) == n) = false := by simpa using h2
    have H2 := hide h2
    clear h2
    go_enter Try.func20, Try.ntmps20
    go_wp2_with fail
    refine (l05Commons_any A c _ l _ hl HR.out).mono ?_
    rintro e w1 ⟨rfl, k0, rfl⟩
    have b : Below w.heap.size w (w.drewN k0) := below_drewN (Below.refl _ _) _
    generalize w.drewN k0 = w1 at b ⊢
    have B1 := hide b
    have S1 := hide ((HS.out.below b).more b.size)
    have R1 := hide ((HR.out.below b).more b.size)
    have z1 := b.size
    clear b
    go_wp2
    go_ret2
    exact ⟨ret2 (by have := H2.out; simp [spreadOf, h1, this]), B1.out⟩
  subst h2
  cases h3 : allI (-100000) 100000 sh
  · go_enter Try.func20, Try.ntmps20
    go_wp2_with fail
    refine (l05Commons_any A c _ l _ hl HR.out).mono ?_
    rintro e w1 ⟨rfl, k0, rfl⟩
    have b : Below w.heap.size w (w.drewN k0) := below_drewN (Below.refl _ _) _
    generalize w.drewN k0 = w1 at b ⊢
    have B1 := hide b
    have S1 := hide ((HS.out.below b).more b.size)
    have R1 := hide ((HR.out.below b).more b.size)
    have z1 := b.size
    clear b
    go_wp2_with (go_at_call 60; refine (l05Shifts_any A2 c2 sh _ _ (by omega) (by omega) hl2 S1.out).mono ?_; rintro e w' ⟨rfl, rfl⟩)
    go_ret2
    exact ⟨ret2 (by simp [spreadOf, h1, h3]), B1.out⟩
  obtain ⟨n1, n2, n3, n4⟩ := coms_true h1
  have N4 := hide n4
  have H3 := hide h3
  clear n4
  have P1 := hide (show spreadOf sh.length l sh = (leftTo l sh l.length, 0) from by rw [spreadOf, if_pos h1, if_pos ⟨rfl, h3⟩])
  go_enter Try.func20, Try.ntmps20
  go_wp2_with fail
  refine (l05Commons_any A c _ l _ hl HR.out).mono ?_
  rintro e w1 ⟨rfl, k0, rfl⟩
  have b : Below w.heap.size w (w.drewN k0) := below_drewN (Below.refl _ _) _
  generalize w.drewN k0 = w1 at b ⊢
  have B1 := hide b
  have S1 := hide ((HS.out.below b).more b.size)
  have R1 := hide ((HR.out.below b).more b.size)
  have z1 := b.size
  clear b
  go_wp2_with (go_at_call 60; refine (l05Shifts_any A2 c2 sh _ _ (by omega) (by omega) hl2 S1.out).mono ?_; rintro e w' ⟨rfl, rfl⟩)
  have B2 := B1
  have S2 := S1
  have R2 := R1
  go_loopw [8, 9] (fun s i wr => ∃ k : Nat, k ≤ l.length ∧ i = .int .i64 k ∧ s = .int .i64 (leftTo l sh k) ∧ ∃ n, wr = w1.drewN n) (fun _ i _ => l.length - (intOf i).toNat)
  case atStart => exact ⟨0, by omega, rfl, rfl, 0, rfl⟩
  case round =>
    obtain ⟨k, hk, rfl, rfl, n, rfl⟩ := hrel
    by_cases hlt : k < l.length
    · obtain ⟨a1, a2, b1, b2, ab, d1, d2⟩ := N4.out k hlt
      have hs := hide (leftTo_succ (sh := sh) hlt)
      obtain ⟨g, off, rfl, hg, hc⟩ := R2.out.elem ComT.cells_len hlt
      obtain ⟨p, hp⟩ := Int.eq_ofNat_of_zero_le a1
      obtain ⟨q, hq⟩ := Int.eq_ofNat_of_zero_le b1
      have hpl : p < sh.length := by omega
      have hql : q < sh.length := by omega
      obtain ⟨g2, off2, rfl, hg2, hcp⟩ := S2.out.int hpl
      obtain ⟨g3, off3, he, hg3, hcq⟩ := S2.out.int hql
      injection he with he
      injection he with he1 he2 _
      subst he1 he2
      have hxp := inB_true (allI_at H3.out hpl)
      have hxq := inB_true (allI_at H3.out hql)
      obtain ⟨xp1, xp2⟩ := hxp
      obtain ⟨xq1, xq2⟩ := hxq
      rw [hp, hq, shAt_nat hpl, shAt_nat hql] at hs
      have f0 : w1.cell? ⟨g, off + k * 3, none⟩ = some (.int .i64 (p : Int)) := hp ▸ hc 0 _ rfl
      have f1 : w1.cell? ⟨g, off + k * 3 + 1, none⟩ = some (.int .i64 (q : Int)) := hq ▸ hc 1 _ rfl
      have f2 : w1.cell? ⟨g, off + k * 3 + 2, none⟩ = some (.int .i64 l[k].diff) := hc 2 _ rfl
      have i1 : (0 : Int) ≤ (k : Int) := by omega
      have i2 : (k : Int) < (l.length : Int) := by omega
      have i3 : (0 : Int) ≤ (p : Int) := by omega
      have i4 : (p : Int) < (sh.length : Int) := by omega
      have i5 : (0 : Int) ≤ (q : Int) := by omega
      have i6 : (q : Int) < (sh.length : Int) := by omega
      clear hc a1 a2 b1 b2 ab hp hq
      go_wp2_with fail
      go_quiet ((first | (go_at_call 62; with_reducible first | exact qsame (l02Size_any _ _ (by omega) (by omega)) | exact qadd (l02Size_any _ _ (by omega) (by omega))) | (go_at_call 61; with_reducible first | exact qsame (l00Max_any _ _ _) | exact qadd (l00Max_any _ _ _))))
      go_wp2
      go_roundw
      case rel => exact ⟨k + 1, by omega, by go_num, by rw [hs.out], ⟨_, by first | rfl | exact World.drewN_drewN⟩⟩
      case measure => simp [intOf]; omega
    · obtain rfl : k = l.length := by omega
      go_wp2
      go_ret2
      exact ⟨ret2 P1.out, B2.out.trans (by repeat (first | exact Below.refl _ _ | assumption | refine Below.drew ?_ | refine below_drewN ?_ _ | refine Below.alloc ?_ (by first | omega | (simp; done) | (simp; omega)) _ | refine Below.setCell ?_ (by first | omega | (simp; done) | (simp; omega)) _ | refine Below.trans ?_ (Below.mono (by assumption) (by first | omega | (simp; done) | (simp; omega)))))⟩
theorem spread_end : True := trivial
end Go.Proofs.Ytjflebgaemgeeaa
