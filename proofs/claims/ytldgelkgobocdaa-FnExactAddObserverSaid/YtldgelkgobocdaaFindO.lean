/-
  Contracts: the index of the observer with a name.
-/
import Derived.Test.YtldgelkgobocdaaValO
import Derived.Test.YtldgelkgobocdaaPlC
namespace Go.Proofs.Ytldgelkgobocdaa
open Go.RowKit Pl
set_option linter.unusedVariables false
set_option linter.unusedSimpArgs false
def obsIs (s : ByteArray) (x : ObsT) : Bool := x.name.toList == s.toList
def findObserver (l : List ObsT) (s : ByteArray) : Int := idxBy (obsIs s) l
def atObserver (l : List ObsT) (s : ByteArray) : Int × Int := if findObserver l s < 0 then (0, 3) else (findObserver l s, 0)
def namedObserver (l : List ObsT) (s : ByteArray) : Int × Int := if validB obsOk obsLt 40 l = true then atObserver l s else (0, 1)
theorem cloObserver_any {name : ByteArray} {shift : Int} (s : ByteArray) (g1 : Nat) (w : World) (b : Bool) (hb : (name.toList == s.toList) = b) (k : w.cell? ⟨g1, 0, none⟩ = some (.string s)) : Calls Try.prog 116 #[.agg #[.string name, .int .i64 shift], .pointer (some ⟨g1, 0, none⟩)] w fun e w' => e = .returned (.bool b) ∧ Below w.heap.size w w' := by
  have HB := hide hb
  clear hb
  have hz := World.block_lt_of_cell? w _ k
  have k2 := ((Below.alloc (Below.refl w.heap.size w) (Nat.le_refl _) (.cells #[.string name, .int .i64 shift] 77)).cell (p := ⟨g1, 0, none⟩) hz).trans k
  go_enter Try.func116, Try.ntmps116
  go_wp2
  go_ret
  exact ⟨ret_bool HB.out, (by repeat (first | exact Below.refl _ _ | assumption | refine Below.drew ?_ | refine below_drewN ?_ _ | refine Below.alloc ?_ (by first | omega | (simp; done) | (simp; omega)) _ | refine Below.setCell ?_ (by first | omega | (simp; done) | (simp; omega)) _ | refine Below.trans ?_ (Below.mono (by assumption) (by first | omega | (simp; done) | (simp; omega)))))⟩
set_option maxHeartbeats 1000000 in
theorem IndexFunc_Observer_any (A : Option Addr) (c : Nat) (l : List ObsT) (s : ByteArray) (g1 : Nat) (w : World) (hn : l.length ≤ 1048576) (hr : Rd w w.heap.size 2 A l.length (l.flatMap ObsT.cells)) (h1 : w.cell? ⟨g1, 0, none⟩ = some (.string s)) :
    Calls Try.prog 138 #[.slice A l.length c, .func (.func 116) #[] #[.pointer (some ⟨g1, 0, none⟩)]] w fun e w' => e = .returned (.int .i64 (findObserver l s)) ∧ Below w.heap.size w w' := by
  have hz := World.block_lt_of_cell? w _ h1
  go_enter Try.func138, Try.ntmps138
  go_wp2_with fail
  go_loopw [8] (fun i wr => ∃ k : Nat, k ≤ l.length ∧ i = .int .i64 k ∧ Below w.heap.size w wr ∧ Hid (∀ j (h : j < k) (h' : j < l.length), obsIs s (l[j]'h') = false)) (fun i _ => l.length - (intOf i).toNat)
  case atStart => exact ⟨0, by omega, rfl, (by repeat (first | exact Below.refl _ _ | assumption | refine Below.drew ?_ | refine below_drewN ?_ _ | refine Below.alloc ?_ (by first | omega | (simp; done) | (simp; omega)) _ | refine Below.setCell ?_ (by first | omega | (simp; done) | (simp; omega)) _ | refine Below.trans ?_ (Below.mono (by assumption) (by first | omega | (simp; done) | (simp; omega))))), fun j hj => absurd hj (by omega)⟩
  case round =>
    obtain ⟨k, hk, rfl, hb, hs⟩ := hrel
    have Hb := hide hb
    by_cases hlt : k < l.length
    · obtain ⟨g, off, rfl, hg, hc⟩ := hr.elem ObsT.cells_len hlt
      have f0 : wr.cell? ⟨g, off + k * 2, none⟩ = some (.string l[k].name) := (hb.cell (p := ⟨g, off + k * 2, none⟩) hg).trans (hc 0 _ rfl)
      have f1 : wr.cell? ⟨g, off + k * 2 + 1, none⟩ = some (.int .i64 l[k].shift) := (hb.cell (p := ⟨g, off + k * 2 + 1, none⟩) hg).trans (hc 1 _ rfl)
      have h2 : wr.cell? ⟨g1, 0, none⟩ = some (.string s) := (hb.cell (p := ⟨g1, 0, none⟩) hz).trans h1
      have i1 : (0 : Int) ≤ (k : Int) := by omega
      have i2 : (k : Int) < (l.length : Int) := by omega
      cases hq : obsIs s l[k]
      · have hst := hide hq
        clear hc hr hb h1
        go_wp2_with fail
        refine (cloObserver_any s g1 _ false hst.out (by assumption)).mono ?_
        rintro e w1 ⟨rfl, hb1⟩
        go_wp2
        go_roundw
        case rel =>
          refine ⟨k + 1, by omega, by go_num, Hb.out.trans (hb1.mono Hb.out.size), fun j hj hj' => ?_⟩
          rcases Nat.lt_or_ge j k with h0 | h0
          · exact hs.out j h0 hj'
          · have : j = k := by omega
            subst this; exact hst.out
        case measure => simp [intOf]; omega
      · have hst := hide hq
        clear hc hr hb h1
        go_wp2_with fail
        refine (cloObserver_any s g1 _ true hst.out (by assumption)).mono ?_
        rintro e w1 ⟨rfl, hb1⟩
        go_wp2
        go_ret
        exact ⟨ret_int (idxBy_hit hlt (fun i hi' => hs.out i hi' (by omega)) hst.out).symm, Hb.out.trans (hb1.mono Hb.out.size)⟩
    · obtain rfl : k = l.length := by omega
      clear hr hb
      go_wp2
      go_ret
      exact ⟨ret_int (idxBy_none (fun i hi' => hs.out i hi' hi')).symm, Hb.out⟩
theorem indexOf_Observer_any (A : Option Addr) (c : Nat) (l : List ObsT) (s : ByteArray) (g1 : Nat) (w : World) (hn : l.length ≤ 1048576) (hr : Rd w w.heap.size 2 A l.length (l.flatMap ObsT.cells)) (h1 : w.cell? ⟨g1, 0, none⟩ = some (.string s)) :
    Calls Try.prog 115 #[.slice A l.length c, .func (.func 116) #[] #[.pointer (some ⟨g1, 0, none⟩)]] w fun e w' => e = .returned (.tuple #[.int .i64 (atObserver l s).1, .int .i64 (atObserver l s).2]) ∧ Below w.heap.size w w' := by
  have HR := hide hr
  have H1 := hide h1
  clear hr h1
  by_cases h : findObserver l s < 0
  · have e1 : ¬ 0 ≤ findObserver l s := by omega
    have H := hide (show atObserver l s = (0, 3) from if_pos h)
    clear h
    go_enter Try.func115, Try.ntmps115
    go_wp2_with fail
    refine (IndexFunc_Observer_any A c l s g1 _ hn HR.out H1.out).mono ?_
    rintro e w1 ⟨rfl, hb1⟩
    go_wp2
    go_ret2
    exact ⟨ret2 H.out, hb1⟩
  · have e1 : 0 ≤ findObserver l s := by omega
    have H := hide (show atObserver l s = (findObserver l s, 0) from if_neg h)
    clear h
    go_enter Try.func115, Try.ntmps115
    go_wp2_with fail
    refine (IndexFunc_Observer_any A c l s g1 _ hn HR.out H1.out).mono ?_
    rintro e w1 ⟨rfl, hb1⟩
    go_wp2
    go_ret2
    exact ⟨ret2 H.out, hb1⟩
theorem findObserver_any (A : Option Addr) (c : Nat) (l : List ObsT) (s : ByteArray) (w : World) (hn : l.length ≤ 1048576) (hr : Rd w w.heap.size 2 A l.length (l.flatMap ObsT.cells)) :
    Calls Try.prog 67 #[.slice A l.length c, .string s] w fun e w' => e = .returned (.tuple #[.int .i64 (atObserver l s).1, .int .i64 (atObserver l s).2]) ∧ Below w.heap.size w w' := by
  have HR := hide hr
  clear hr
  go_enter Try.func67, Try.ntmps67
  go_wp2_with fail
  refine (indexOf_Observer_any A c l s _ _ hn ((HR.out.alloc (Nat.le_refl _) _).more (by simp)) (by simp [go_sem])).mono ?_
  rintro e w1 ⟨rfl, hb1⟩
  go_wp2
  go_ret2
  exact ⟨rfl, (by repeat (first | exact Below.refl _ _ | assumption | refine Below.drew ?_ | refine below_drewN ?_ _ | refine Below.alloc ?_ (by first | omega | (simp; done) | (simp; omega)) _ | refine Below.setCell ?_ (by first | omega | (simp; done) | (simp; omega)) _ | refine Below.trans ?_ (Below.mono (by assumption) (by first | omega | (simp; done) | (simp; omega)))))⟩
set_option maxHeartbeats 1000000 in
theorem impl_ObserverNamed_any (A : Option Addr) (c : Nat) (l : List ObsT) (s : ByteArray) (w : World) (hn : l.length ≤ 1048576) (hok : ∀ x ∈ l, x.ok) (hr : Rd w w.heap.size 2 A l.length (l.flatMap ObsT.cells)) :
    Calls Try.prog 18 #[.slice A l.length c, .string s] w fun e w' => e = .returned (.tuple #[.int .i64 (namedObserver l s).1, .int .i64 (namedObserver l s).2]) ∧ Below w.heap.size w w' := by
  have HR := hide hr
  have HO := hide hok
  clear hr hok
  cases h1 : validB obsOk obsLt 40 l
  · 
    go_enter Try.func18, Try.ntmps18
    go_wp2_with fail
    refine (impl_ValidObservers_any A c l _ hn HO.out HR.out).mono ?_
    rintro e w1 ⟨rfl, b⟩
    have R1 := hide ((HR.out.below b).more b.size)
    have B1 := hide b
    clear b
    go_wp2
    go_ret2
    exact ⟨ret2 (by simp [namedObserver, h1]), B1.out⟩
  ·
    go_enter Try.func18, Try.ntmps18
    go_wp2_with fail
    refine (impl_ValidObservers_any A c l _ hn HO.out HR.out).mono ?_
    rintro e w1 ⟨rfl, b⟩
    have R1 := hide ((HR.out.below b).more b.size)
    have B1 := hide b
    clear b
    go_wp2_with fail
    refine (findObserver_any A c l s _ hn R1.out).mono ?_
    rintro e w2 ⟨rfl, b⟩
    go_wp2
    go_ret2
    exact ⟨ret2 (by simp [namedObserver, h1]), B1.out.trans (b.mono B1.out.size)⟩
theorem l05Find_any (A : Option Addr) (c : Nat) (l : List ObsT) (s : ByteArray) (w : World) (hn : l.length ≤ 1048576) (hr : Rd w w.heap.size 2 A l.length (l.flatMap ObsT.cells)) :
    Calls Try.prog 65 #[.slice A l.length c, .string s] w fun e w' => e = .returned (.int .i64 (findObserver l s)) ∧ w = w' := by
  go_enter Try.func65, Try.ntmps65
  go_wp2
  go_loop [5] (fun i => ∃ k : Nat, k ≤ l.length ∧ i = .int .i64 k ∧ Hid (∀ j (h : j < k) (h' : j < l.length), obsIs s (l[j]'h') = false)) (fun i => l.length - (intOf i).toNat)
  case atStart => exact ⟨0, by omega, rfl, fun j hj => absurd hj (by omega)⟩
  case round =>
    obtain ⟨k, hk, rfl, hs⟩ := hrel
    by_cases hlt : k < l.length
    · obtain ⟨g, off, rfl, hg, hc⟩ := hr.elem ObsT.cells_len hlt
      have f0 : w.cell? ⟨g, off + k * 2, none⟩ = some (.string l[k].name) := hc 0 _ rfl
      have i1 : (0 : Int) ≤ (k : Int) := by omega
      have i2 : (k : Int) < (l.length : Int) := by omega
      clear hc hr
      cases hq : obsIs s l[k]
      · have hst := hide hq
        have hq2 : (l[k].name.toList == s.toList) = false := hq
        clear hq
        go_wp2
        go_round
        case rel =>
          refine ⟨k + 1, by omega, by go_num, fun j hj hj' => ?_⟩
          rcases Nat.lt_or_ge j k with h0 | h0
          · exact hs.out j h0 hj'
          · have : j = k := by omega
            subst this; exact hst.out
        case measure => simp [intOf]; omega
      · have hst := hide hq
        have hq2 : (l[k].name.toList == s.toList) = true := hq
        clear hq
        go_wp2
        go_ret
        exact ⟨ret_int (idxBy_hit hlt (fun i hi' => hs.out i hi' (by omega)) hst.out).symm, rfl⟩
    · obtain rfl : k = l.length := by omega
      clear hr
      go_wp2
      go_ret
      exact ⟨ret_int (idxBy_none (fun i hi' => hs.out i hi' hi')).symm, rfl⟩
set_option maxHeartbeats 1000000 in
theorem spec_ObserverNamed_any (A : Option Addr) (c : Nat) (l : List ObsT) (s : ByteArray) (w : World) (hn : l.length ≤ 1048576) (hok : ∀ x ∈ l, x.ok) (hr : Rd w w.heap.size 2 A l.length (l.flatMap ObsT.cells)) :
    Calls Try.prog 16 #[.slice A l.length c, .string s] w fun e w' => e = .returned (.tuple #[.int .i64 (namedObserver l s).1, .int .i64 (namedObserver l s).2]) ∧ Below w.heap.size w w' := by
  have HR := hide hr
  have HO := hide hok
  clear hr hok
  cases h1 : validB obsOk obsLt 40 l
  · go_enter Try.func16, Try.ntmps16
    go_wp2_with fail
    refine (l05Ok_any A c l _ hn HO.out HR.out).mono ?_
    rintro e w1 ⟨rfl, b⟩
    go_wp2
    go_ret2
    exact ⟨ret2 (by simp [namedObserver, h1]), b⟩
  by_cases h : findObserver l s < 0
  all_goals
    have H := hide (show namedObserver l s = atObserver l s from by simp [namedObserver, h1])
    have H2 := hide (show atObserver l s = if findObserver l s < 0 then (0, 3) else (findObserver l s, 0) from rfl)
    go_enter Try.func16, Try.ntmps16
    go_wp2_with fail
    refine (l05Ok_any A c l _ hn HO.out HR.out).mono ?_
    rintro e w1 ⟨rfl, b⟩
    have R1 := hide ((HR.out.below b).more b.size)
    have B1 := hide b
    clear b
    go_wp2_with fail
    refine (l05Find_any A c l s _ hn R1.out).mono ?_
    rintro e w' ⟨rfl, rfl⟩
    go_wp2
    go_ret2
    exact ⟨ret2 (by rw [H.out, H2.out]; split <;> first | rfl | omega), B1.out⟩
theorem findObserver_end : True := trivial
end Go.Proofs.Ytldgelkgobocdaa
