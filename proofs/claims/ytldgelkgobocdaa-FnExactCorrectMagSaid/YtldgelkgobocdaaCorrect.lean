/-
  Contracts: a magnitude that an observer told, corrected.
-/
import Derived.Test.YtldgelkgobocdaaFindO
namespace Go.Proofs.Ytldgelkgobocdaa
open Go.RowKit Pl
set_option linter.unusedVariables false
set_option linter.unusedSimpArgs false
def shiftAt (l : List ObsT) (i : Int) : Int := match l[i.toNat]? with | some x => x.shift | none => 0
def correctOf (l : List ObsT) (s : ByteArray) (m : Int) : Int × Int :=
  if validB obsOk obsLt 40 l = true then (if inB m (-2000) 20000 = true then (if findObserver l s < 0 then (0, 3) else (if inB (m + shiftAt l (findObserver l s)) (-2000) 20000 = true then (m + shiftAt l (findObserver l s), 0) else (0, 5))) else (0, 2)) else (0, 1)
theorem idxBy_lt {α : Type} {p : α → Bool} : ∀ {l : List α}, 0 ≤ idxBy p l → idxBy p l < l.length
  | [], h => by simp [idxBy] at h
  | x :: l, h => by
    unfold idxBy at h ⊢
    split
    · simp
    · rename_i h0
      rw [if_neg h0] at h
      split at h
      · omega
      · rename_i h1
        rw [if_neg h1]
        have := idxBy_lt (p := p) (l := l) (by omega)
        simp; omega
theorem obs_shift {l : List ObsT} (h : validB obsOk obsLt 40 l = true) {i : Nat} (hi : i < l.length) : -2000 ≤ l[i].shift ∧ l[i].shift ≤ 2000 := by
  have h1 := (valid_all h).2 i hi
  simp only [obsOk, obsB, Bool.and_eq_true] at h1
  exact inB_true h1.2
theorem findObserver_val {A : Option Addr} {c : Nat} {l : List ObsT} {s : ByteArray} {a b : Int} (h : atObserver l s = (a, b)) (w : World) (hn : l.length ≤ 1048576) (hr : Rd w w.heap.size 2 A l.length (l.flatMap ObsT.cells)) :
    Calls Try.prog 67 #[.slice A l.length c, .string s] w fun e w' => e = .returned (.tuple #[.int .i64 a, .int .i64 b]) ∧ Below w.heap.size w w' := by
  have h1 := findObserver_any A c l s w hn hr
  rw [h] at h1
  exact h1
set_option maxHeartbeats 1000000 in
theorem impl_CorrectMag_any (A : Option Addr) (c : Nat) (l : List ObsT) (s : ByteArray) (m : Int) (w : World) (hn : l.length ≤ 1048576) (hok : ∀ x ∈ l, x.ok) (hr : Rd w w.heap.size 2 A l.length (l.flatMap ObsT.cells)) :
    Calls Try.prog 26 #[.slice A l.length c, .string s, .int .i64 m] w fun e w' => e = .returned (.tuple #[.int .i64 (correctOf l s m).1, .int .i64 (correctOf l s m).2]) ∧ Below w.heap.size w w' := by
  have HR := hide hr
  have HO := hide hok
  clear hr hok
  cases h1 : validB obsOk obsLt 40 l
  · have P := hide (show correctOf l s m = (0, 1) from by simp [correctOf, h1])
    go_enter Try.func26, Try.ntmps26
    go_wp2_with fail
    refine (impl_ValidObservers_any A c l _ hn HO.out HR.out).mono ?_
    rintro e w1 ⟨rfl, b⟩
    have R1 := hide ((HR.out.below b).more b.size)
    have B1 := hide b
    clear b
    go_wp2
    go_ret2
    exact ⟨ret2 P.out, B1.out⟩
  have HV := hide h1
  cases h2 : inB m (-2000) 20000
  · have P := hide (show correctOf l s m = (0, 2) from by simp [correctOf, h1, h2])
    go_enter Try.func26, Try.ntmps26
    go_wp2_with fail
    refine (impl_ValidObservers_any A c l _ hn HO.out HR.out).mono ?_
    rintro e w1 ⟨rfl, b⟩
    have R1 := hide ((HR.out.below b).more b.size)
    have B1 := hide b
    clear b
    go_wp2_with (go_at_call 76; refine (impl_ValidMag_any _ _).mono ?_; rintro e w' ⟨rfl, rfl⟩)
    go_ret2
    exact ⟨ret2 P.out, B1.out⟩
  rcases Int.lt_or_le (findObserver l s) 0 with h3 | h3
  · have P := hide (show correctOf l s m = (0, 3) from by simp [correctOf, h1, h2, h3])
    have HF := hide (show atObserver l s = (0, 3) from if_pos h3)
    clear h3
    go_enter Try.func26, Try.ntmps26
    go_wp2_with fail
    refine (impl_ValidObservers_any A c l _ hn HO.out HR.out).mono ?_
    rintro e w1 ⟨rfl, b⟩
    have R1 := hide ((HR.out.below b).more b.size)
    have B1 := hide b
    clear b
    go_wp2_with (go_at_call 76; refine (impl_ValidMag_any _ _).mono ?_; rintro e w' ⟨rfl, rfl⟩)
    refine (findObserver_val HF.out _ hn R1.out).mono ?_
    rintro e w2 ⟨rfl, b⟩
    have R2 := hide ((R1.out.below b).more b.size)
    have B2 := hide (B1.out.trans (b.mono B1.out.size))
    clear b R1 B1
    go_wp2_with (go_at_call 76; refine (impl_ValidMag_any _ _).mono ?_; rintro e w' ⟨rfl, rfl⟩)
    go_ret2
    exact ⟨ret2 P.out, B2.out⟩
  have h4 : ¬ findObserver l s < 0 := by omega
  have h5 : findObserver l s < l.length := idxBy_lt h3
  obtain ⟨p, hp⟩ := Int.eq_ofNat_of_zero_le h3
  have hpl : p < l.length := by omega
  have hsh : shiftAt l (p : Int) = l[p].shift := by unfold shiftAt; rw [Int.toNat_natCast, List.getElem?_eq_getElem hpl]
  obtain ⟨x1, x2⟩ := obs_shift h1 hpl
  obtain ⟨m1, m2⟩ := inB_true h2
  have HF := hide (show atObserver l s = ((p : Int), 0) from by rw [atObserver, if_neg h4, hp])
  have PP := hide (show correctOf l s m = if inB (m + l[p].shift) (-2000) 20000 = true then (m + l[p].shift, 0) else (0, 5) from by rw [correctOf, if_pos h1, if_pos h2, if_neg h4, hp, hsh])
  clear h3 h4 h5 hp hsh
  have i1 : (0 : Int) ≤ (p : Int) := by omega
  have i2 : (p : Int) < (l.length : Int) := by omega
  cases h6 : inB (m + l[p].shift) (-2000) 20000
  all_goals
    have H6 := hide h6
    go_enter Try.func26, Try.ntmps26
    go_wp2_with fail
    refine (impl_ValidObservers_any A c l _ hn HO.out HR.out).mono ?_
    rintro e w1 ⟨rfl, b⟩
    have R1 := hide ((HR.out.below b).more b.size)
    have B1 := hide b
    clear b
    go_wp2_with (go_at_call 76; refine (impl_ValidMag_any _ _).mono ?_; rintro e w' ⟨rfl, rfl⟩)
    refine (findObserver_val HF.out _ hn R1.out).mono ?_
    rintro e w2 ⟨rfl, b⟩
    have R2 := hide ((R1.out.below b).more b.size)
    have B2 := hide (B1.out.trans (b.mono B1.out.size))
    clear b R1 B1
    obtain ⟨g, off, rfl, hg, hc⟩ := R2.out.elem ObsT.cells_len hpl
    have f1 := hc 1 _ rfl
    clear hc
    go_wp2_with (go_at_call 76; refine (impl_ValidMag_any _ _).mono ?_; rintro e w' ⟨rfl, rfl⟩)
    go_ret2
    exact ⟨ret2 (by rw [PP.out, H6.out]; rfl), B2.out⟩
theorem spec_Named_val {A : Option Addr} {c : Nat} {l : List ObsT} {s : ByteArray} {a b : Int} (h : namedObserver l s = (a, b)) (w : World) (hn : l.length ≤ 1048576) (hok : ∀ x ∈ l, x.ok) (hr : Rd w w.heap.size 2 A l.length (l.flatMap ObsT.cells)) :
    Calls Try.prog 16 #[.slice A l.length c, .string s] w fun e w' => e = .returned (.tuple #[.int .i64 a, .int .i64 b]) ∧ Below w.heap.size w w' := by
  have h1 := spec_ObserverNamed_any A c l s w hn hok hr
  rw [h] at h1
  exact h1
set_option maxHeartbeats 1000000 in
theorem spec_CorrectMag_any (A : Option Addr) (c : Nat) (l : List ObsT) (s : ByteArray) (m : Int) (w : World) (hn : l.length ≤ 1048576) (hok : ∀ x ∈ l, x.ok) (hr : Rd w w.heap.size 2 A l.length (l.flatMap ObsT.cells)) :
    Calls Try.prog 25 #[.slice A l.length c, .string s, .int .i64 m] w fun e w' => e = .returned (.tuple #[.int .i64 (correctOf l s m).1, .int .i64 (correctOf l s m).2]) ∧ Below w.heap.size w w' := by
  have HR := hide hr
  have HO := hide hok
  clear hr hok
  cases h1 : validB obsOk obsLt 40 l
  · have P := hide (show correctOf l s m = (0, 1) from by simp [correctOf, h1])
    have HN := hide (show namedObserver l s = (0, 1) from by simp [namedObserver, h1])
    go_enter Try.func25, Try.ntmps25
    go_wp2_with fail
    refine (spec_Named_val HN.out _ hn HO.out HR.out).mono ?_
    rintro e w1 ⟨rfl, b⟩
    have R1 := hide ((HR.out.below b).more b.size)
    have B1 := hide b
    clear b
    go_wp2
    go_ret2
    exact ⟨ret2 P.out, B1.out⟩
  have HV := hide h1
  cases h2 : inB m (-2000) 20000
  · have P := hide (show correctOf l s m = (0, 2) from by simp [correctOf, h1, h2])
    have HN0 : ∃ a b : Int, namedObserver l s = (a, b) ∧ (b == 1) = false := by
      simp only [namedObserver, h1, if_true, atObserver]
      split
      · exact ⟨_, _, rfl, rfl⟩
      · exact ⟨_, _, rfl, rfl⟩
    obtain ⟨na, nb, hna, hnb⟩ := HN0
    have HN := hide hna
    clear hna
    go_enter Try.func25, Try.ntmps25
    go_wp2_with fail
    refine (spec_Named_val HN.out _ hn HO.out HR.out).mono ?_
    rintro e w1 ⟨rfl, b⟩
    have R1 := hide ((HR.out.below b).more b.size)
    have B1 := hide b
    clear b
    go_wp2_with (go_at_call 75; refine (spec_l02Mag_any _ _).mono ?_; rintro e w' ⟨rfl, rfl⟩)
    go_ret2
    exact ⟨ret2 P.out, B1.out⟩
  rcases Int.lt_or_le (findObserver l s) 0 with h3 | h3
  · have P := hide (show correctOf l s m = (0, 3) from by simp [correctOf, h1, h2, h3])
    have HF := hide (show atObserver l s = (0, 3) from if_pos h3)
    have HN := hide (show namedObserver l s = (0, 3) from by simp [namedObserver, h1, atObserver, h3])
    clear h3
    go_enter Try.func25, Try.ntmps25
    go_wp2_with fail
    refine (spec_Named_val HN.out _ hn HO.out HR.out).mono ?_
    rintro e w1 ⟨rfl, b⟩
    have R1 := hide ((HR.out.below b).more b.size)
    have B1 := hide b
    clear b
    have R2 := R1
    have B2 := B1
    clear R1 B1
    go_wp2_with (go_at_call 75; refine (spec_l02Mag_any _ _).mono ?_; rintro e w' ⟨rfl, rfl⟩)
    go_ret2
    exact ⟨ret2 P.out, B2.out⟩
  have h4 : ¬ findObserver l s < 0 := by omega
  have h5 : findObserver l s < l.length := idxBy_lt h3
  obtain ⟨p, hp⟩ := Int.eq_ofNat_of_zero_le h3
  have hpl : p < l.length := by omega
  have hsh : shiftAt l (p : Int) = l[p].shift := by unfold shiftAt; rw [Int.toNat_natCast, List.getElem?_eq_getElem hpl]
  obtain ⟨x1, x2⟩ := obs_shift h1 hpl
  obtain ⟨m1, m2⟩ := inB_true h2
  have HF := hide (show atObserver l s = ((p : Int), 0) from by rw [atObserver, if_neg h4, hp])
  have HN := hide (show namedObserver l s = ((p : Int), 0) from by rw [namedObserver, if_pos h1, HF.out])
  have PP := hide (show correctOf l s m = if inB (m + l[p].shift) (-2000) 20000 = true then (m + l[p].shift, 0) else (0, 5) from by rw [correctOf, if_pos h1, if_pos h2, if_neg h4, hp, hsh])
  clear h3 h4 h5 hp hsh
  have i1 : (0 : Int) ≤ (p : Int) := by omega
  have i2 : (p : Int) < (l.length : Int) := by omega
  cases h6 : inB (m + l[p].shift) (-2000) 20000
  all_goals
    have H6 := hide h6
    go_enter Try.func25, Try.ntmps25
    go_wp2_with fail
    refine (spec_Named_val HN.out _ hn HO.out HR.out).mono ?_
    rintro e w1 ⟨rfl, b⟩
    have R1 := hide ((HR.out.below b).more b.size)
    have B1 := hide b
    clear b
    have R2 := R1
    have B2 := B1
    clear R1 B1
    obtain ⟨g, off, rfl, hg, hc⟩ := R2.out.elem ObsT.cells_len hpl
    have f1 := hc 1 _ rfl
    clear hc
    go_wp2_with (go_at_call 75; refine (spec_l02Mag_any _ _).mono ?_; rintro e w' ⟨rfl, rfl⟩)
    go_ret2
    exact ⟨ret2 (by rw [PP.out, H6.out]; rfl), B2.out⟩
theorem correct_end : True := trivial
end Go.Proofs.Ytldgelkgobocdaa
