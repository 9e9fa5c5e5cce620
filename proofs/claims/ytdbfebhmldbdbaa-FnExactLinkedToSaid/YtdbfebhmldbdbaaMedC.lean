/-
  Contracts: the median of magnitudes, both sides.
-/
import Derived.Test.YtdbfebhmldbdbaaMedB
import Derived.Test.YtdbfebhmldbdbaaInts
import Derived.Test.YtdbfebhmldbdbaaNum
namespace Go.Proofs.Ytdbfebhmldbdbaa
open Go.RowKit Pl
set_option linter.unusedVariables false
set_option linter.unusedSimpArgs false
theorem l02Median_any (A : Option Addr) (c : Nat) (l : List Int) (w : World) (h0 : 0 < l.length) (hlen : l.length ≤ 1048576) (hB : ∀ x ∈ l, -1000000000 ≤ x ∧ x ≤ 1000000000) (hr : Rd w w.heap.size 1 A l.length (ints l)) :
    Calls Try.prog 24 #[.slice A l.length c] w fun e W' => e = .returned (.int .i64 (med l)) ∧ Below w.heap.size w W' := by
  have HR := hide hr
  have HBD := hide hB
  clear hr hB
  go_enter Try.func24, Try.ntmps24
  go_wp2_with fail
  refine (l02Sort_any A c l w hlen HR.out).mono ?_
  rintro e w1 ⟨A', c', rfl, v, b⟩
  have HO := hide v
  have HB := hide b
  clear v b
  have hl := srt_len l
  have hq : l.length / 2 < (srt l).length := by omega
  obtain ⟨g, off, rfl, hg, hc⟩ := (show Rd w1 w1.heap.size 1 A' (srt l).length (ints (srt l)) from by rw [hl]; exact HO.out.rd).int hq
  have hb1 := srt_bd HBD.out hq
  obtain ⟨x, hx⟩ : ∃ x, x = (srt l)[l.length / 2] := ⟨_, rfl⟩
  rw [← hx] at hc hb1
  have hxd : (srt l).getD (l.length / 2) 0 = x := by rw [hx, List.getD_eq_getElem?_getD, List.getElem?_eq_getElem hq]; rfl
  have HX := hide hx
  clear hx
  have i1 : (0 : Int) ≤ ((l.length / 2 : Nat) : Int) := by omega
  have i2 : ((l.length / 2 : Nat) : Int) < (l.length : Int) := by omega
  by_cases hodd : l.length % 2 = 1
  · have HM := hide (show med l = x from by rw [med, if_pos hodd, hxd])
    have hr1 : ((l.length : Int) % 2 == 1) = true := by simp; omega
    go_wp2
    go_ret
    exact ⟨ret_int HM.out.symm, HB.out⟩
  · have hq1 : l.length / 2 - 1 < (srt l).length := by omega
    obtain ⟨g', off', he, hg', hc'⟩ := (show Rd w1 w1.heap.size 1 (some ⟨g, off, none⟩) (srt l).length (ints (srt l)) from by rw [hl]; exact HO.out.rd).int hq1
    injection he with he
    injection he with he1 he2 _
    subst he1 he2
    have hb2 := srt_bd HBD.out hq1
    obtain ⟨y, hy⟩ : ∃ y, y = (srt l)[l.length / 2 - 1] := ⟨_, rfl⟩
    rw [← hy] at hc' hb2
    have hyd : (srt l).getD (l.length / 2 - 1) 0 = y := by rw [hy, List.getD_eq_getElem?_getD, List.getElem?_eq_getElem hq1]; rfl
    have HY := hide hy
    clear hy
    have HM := hide (show med l = near (y + x) 2 from by rw [med, if_neg hodd, hxd, hyd])
    have hr1 : ((l.length : Int) % 2 == 1) = false := by simp; omega
    have j0 : IntKind.i64.wrap (((l.length / 2 : Nat) : Int) - 1) = ((l.length / 2 - 1 : Nat) : Int) := by rw [IntKind.wrap_i64]; omega
    have j1 : (0 : Int) ≤ ((l.length / 2 - 1 : Nat) : Int) := by omega
    have j2 : ((l.length / 2 - 1 : Nat) : Int) < (l.length : Int) := by omega
    have hsum : IntKind.i64.wrap (y + x) = y + x := by rw [IntKind.wrap_i64]; omega
    obtain ⟨q, hqe⟩ : ∃ q, l.length / 2 = q := ⟨_, rfl⟩
    have hqi : (l.length : Int) / 2 = (q : Int) := by omega
    rw [hqe] at hc hc' i1 i2 j0 j1 j2
    obtain ⟨p, hpe⟩ : ∃ p, q - 1 = p := ⟨_, rfl⟩
    rw [hpe] at hc' j0 j1 j2
    have hpq : (q : Int) - 1 = (p : Int) := by omega
    have hwp : IntKind.i64.wrap (p : Int) = (p : Int) := by rw [IntKind.wrap_i64]; omega
    have hti : (l.length : Int).tdiv 2 = (q : Int) := by rw [Int.tdiv_eq_ediv_of_nonneg (by omega)]; exact hqi
    have hwq : IntKind.i64.wrap (q : Int) = (q : Int) := by rw [IntKind.wrap_i64]; omega
    clear hxd hyd HX HY hq hq1 hqe hpe
    go_wp2_with fail
    go_region_held3 (fun w' => w'.cell? ⟨g, off + p, none⟩ = some (.int .i64 y) ∧ w'.cell? ⟨g, off + q, none⟩ = some (.int .i64 x)) (go_keep) (first | (go_at_call 43; refine (l02Round_any _ _ _ (by omega) (by omega) (by omega) (by omega)).mono ?_; rintro e w' ⟨rfl, rfl⟩))
    all_goals
      go_wp2
      go_ret
      exact ⟨ret_int HM.out.symm, HB.out.drew⟩
theorem magsB_bd {l : List Int} (h : magsB l = true) : ∀ x ∈ l, -1000000000 ≤ x ∧ x ≤ 1000000000 := by
  intro x hx
  obtain ⟨t, ht, rfl⟩ := List.getElem_of_mem hx
  have := inB_true (allI_at (magsB_true h).2 ht)
  omega
def medOf (l : List Int) : Int × Int := if someCode l = 0 then (med l, 0) else (0, someCode l)
theorem impl_MedianMag_any (A : Option Addr) (c : Nat) (l : List Int) (w : World) (hl : l.length ≤ 1048576) (hr : Rd w w.heap.size 1 A l.length (ints l)) :
    Calls Try.prog 9 #[.slice A l.length c] w fun e w' => e = .returned (.tuple #[.int .i64 (medOf l).1, .int .i64 (medOf l).2]) ∧ Below w.heap.size w w' := by
  have HR := hide hr
  clear hr
  rcases someCode_cases l with ⟨h1, h2, h3⟩ | ⟨h1, h2⟩ | ⟨h1, h2⟩
  · have H2 := hide (show ∀ x ∈ l, -1000000000 ≤ x ∧ x ≤ 1000000000 from magsB_bd h2)
    clear h2
    go_enter Try.func9, Try.ntmps9
    go_wp2_with (first
      | (go_at_call 25; refine (someMags_any A c l _ hl HR.out).mono ?_; rintro e w' ⟨rfl, hb⟩)
      | (go_at_call 26; refine (median_any A c l _ (by omega) hl H2.out ((HR.out.below (by assumption)).more (by have := Below.size (by assumption : Below w.heap.size w _); omega))).mono ?_; rintro e w' ⟨rfl, hb2⟩))
    go_ret2
    exact ⟨ret2 (by simp [medOf, h1]), hb.trans (hb2.mono hb.size)⟩
  · go_enter Try.func9, Try.ntmps9
    go_wp2_with (go_at_call 25; refine (someMags_any A c l _ hl HR.out).mono ?_; rintro e w' ⟨rfl, hb⟩)
    go_ret2
    exact ⟨ret2 (by simp [medOf, h1]), (by repeat (first | exact Below.refl _ _ | assumption | refine Below.drew ?_ | refine below_drewN ?_ _ | refine Below.alloc ?_ (by first | omega | (simp; done) | (simp; omega)) _ | refine Below.setCell ?_ (by first | omega | (simp; done) | (simp; omega)) _ | refine Below.trans ?_ (Below.mono (by assumption) (by first | omega | (simp; done) | (simp; omega)))))⟩
  · have H2 := hide h2
    clear h2
    go_enter Try.func9, Try.ntmps9
    go_wp2_with (go_at_call 25; refine (someMags_any A c l _ hl HR.out).mono ?_; rintro e w' ⟨rfl, hb⟩)
    go_ret2
    exact ⟨ret2 (by simp [medOf, h1]), (by repeat (first | exact Below.refl _ _ | assumption | refine Below.drew ?_ | refine below_drewN ?_ _ | refine Below.alloc ?_ (by first | omega | (simp; done) | (simp; omega)) _ | refine Below.setCell ?_ (by first | omega | (simp; done) | (simp; omega)) _ | refine Below.trans ?_ (Below.mono (by assumption) (by first | omega | (simp; done) | (simp; omega)))))⟩
theorem spec_MedianMag_any (A : Option Addr) (c : Nat) (l : List Int) (w : World) (hl : l.length ≤ 1048576) (hr : Rd w w.heap.size 1 A l.length (ints l)) :
    Calls Try.prog 7 #[.slice A l.length c] w fun e w' => e = .returned (.tuple #[.int .i64 (medOf l).1, .int .i64 (medOf l).2]) ∧ Below w.heap.size w w' := by
  have HR := hide hr
  clear hr
  rcases someCode_cases l with ⟨h1, h2, h3⟩ | ⟨h1, h2⟩ | ⟨h1, h2⟩
  · have H2 := hide (show ∀ x ∈ l, -1000000000 ≤ x ∧ x ≤ 1000000000 from magsB_bd h2)
    clear h2
    go_enter Try.func7, Try.ntmps7
    go_wp2_with (first
      | (go_at_call 23; refine (l02Some_any A c l _ hl HR.out).mono ?_; rintro e w' ⟨rfl, rfl⟩)
      | (go_at_call 24; refine (l02Median_any A c l _ (by omega) hl H2.out HR.out).mono ?_; rintro e w' ⟨rfl, hb2⟩))
    go_ret2
    exact ⟨ret2 (by simp [medOf, h1]), hb2⟩
  · go_enter Try.func7, Try.ntmps7
    go_wp2_with (go_at_call 23; refine (l02Some_any A c l _ hl HR.out).mono ?_; rintro e w' ⟨rfl, rfl⟩)
    go_ret2
    exact ⟨ret2 (by simp [medOf, h1]), Below.refl _ _⟩
  · have H2 := hide h2
    clear h2
    go_enter Try.func7, Try.ntmps7
    go_wp2_with (go_at_call 23; refine (l02Some_any A c l _ hl HR.out).mono ?_; rintro e w' ⟨rfl, rfl⟩)
    go_ret2
    exact ⟨ret2 (by simp [medOf, h1]), Below.refl _ _⟩
theorem medC_end : True := trivial
end Go.Proofs.Ytdbfebhmldbdbaa
