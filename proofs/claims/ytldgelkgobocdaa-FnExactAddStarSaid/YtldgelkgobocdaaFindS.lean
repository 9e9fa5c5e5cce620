/-
  Contracts: the index of the star with a name.
-/
import Derived.Test.YtldgelkgobocdaaValS
import Derived.Test.YtldgelkgobocdaaPlC
namespace Go.Proofs.Ytldgelkgobocdaa
open Go.RowKit Pl
set_option linter.unusedVariables false
set_option linter.unusedSimpArgs false
def starIs (s : ByteArray) (x : StarT) : Bool := x.name.toList == s.toList
def findStar (l : List StarT) (s : ByteArray) : Int := idxBy (starIs s) l
def atStar (l : List StarT) (s : ByteArray) : Int × Int := if findStar l s < 0 then (0, 3) else (findStar l s, 0)
def namedStar (l : List StarT) (s : ByteArray) : Int × Int := if validB starOk starLt 60 l = true then atStar l s else (0, 1)
theorem cloStar_any {name : ByteArray} {asc : Int} {dec : Int} {bri : Int} {fai : Int} (s : ByteArray) (g1 : Nat) (w : World) (b : Bool) (hb : (name.toList == s.toList) = b) (k : w.cell? ⟨g1, 0, none⟩ = some (.string s)) : Calls Try.prog 73 #[.agg #[.string name, .int .i64 asc, .int .i64 dec, .int .i64 bri, .int .i64 fai], .pointer (some ⟨g1, 0, none⟩)] w fun e w' => e = .returned (.bool b) ∧ Below w.heap.size w w' := by
  have HB := hide hb
  clear hb
  have hz := World.block_lt_of_cell? w _ k
  have k2 := ((Below.alloc (Below.refl w.heap.size w) (Nat.le_refl _) (.cells #[.string name, .int .i64 asc, .int .i64 dec, .int .i64 bri, .int .i64 fai] 85)).cell (p := ⟨g1, 0, none⟩) hz).trans k
  go_enter Try.func73, Try.ntmps73
  go_wp2
  go_ret
  exact ⟨ret_bool HB.out, (by repeat (first | exact Below.refl _ _ | assumption | refine Below.drew ?_ | refine below_drewN ?_ _ | refine Below.alloc ?_ (by first | omega | (simp; done) | (simp; omega)) _ | refine Below.setCell ?_ (by first | omega | (simp; done) | (simp; omega)) _ | refine Below.trans ?_ (Below.mono (by assumption) (by first | omega | (simp; done) | (simp; omega)))))⟩
set_option maxHeartbeats 1000000 in
theorem IndexFunc_Star_any (A : Option Addr) (c : Nat) (l : List StarT) (s : ByteArray) (g1 : Nat) (w : World) (hn : l.length ≤ 1048576) (hr : Rd w w.heap.size 5 A l.length (l.flatMap StarT.cells)) (h1 : w.cell? ⟨g1, 0, none⟩ = some (.string s)) :
    Calls Try.prog 118 #[.slice A l.length c, .func (.func 73) #[] #[.pointer (some ⟨g1, 0, none⟩)]] w fun e w' => e = .returned (.int .i64 (findStar l s)) ∧ Below w.heap.size w w' := by
  have hz := World.block_lt_of_cell? w _ h1
  go_enter Try.func118, Try.ntmps118
  go_wp2_with fail
  go_loopw [8] (fun i wr => ∃ k : Nat, k ≤ l.length ∧ i = .int .i64 k ∧ Below w.heap.size w wr ∧ Hid (∀ j (h : j < k) (h' : j < l.length), starIs s (l[j]'h') = false)) (fun i _ => l.length - (intOf i).toNat)
  case atStart => exact ⟨0, by omega, rfl, (by repeat (first | exact Below.refl _ _ | assumption | refine Below.drew ?_ | refine below_drewN ?_ _ | refine Below.alloc ?_ (by first | omega | (simp; done) | (simp; omega)) _ | refine Below.setCell ?_ (by first | omega | (simp; done) | (simp; omega)) _ | refine Below.trans ?_ (Below.mono (by assumption) (by first | omega | (simp; done) | (simp; omega))))), fun j hj => absurd hj (by omega)⟩
  case round =>
    obtain ⟨k, hk, rfl, hb, hs⟩ := hrel
    have Hb := hide hb
    by_cases hlt : k < l.length
    · obtain ⟨g, off, rfl, hg, hc⟩ := hr.elem StarT.cells_len hlt
      have f0 : wr.cell? ⟨g, off + k * 5, none⟩ = some (.string l[k].name) := (hb.cell (p := ⟨g, off + k * 5, none⟩) hg).trans (hc 0 _ rfl)
      have f1 : wr.cell? ⟨g, off + k * 5 + 1, none⟩ = some (.int .i64 l[k].asc) := (hb.cell (p := ⟨g, off + k * 5 + 1, none⟩) hg).trans (hc 1 _ rfl)
      have f2 : wr.cell? ⟨g, off + k * 5 + 2, none⟩ = some (.int .i64 l[k].dec) := (hb.cell (p := ⟨g, off + k * 5 + 2, none⟩) hg).trans (hc 2 _ rfl)
      have f3 : wr.cell? ⟨g, off + k * 5 + 3, none⟩ = some (.int .i64 l[k].bri) := (hb.cell (p := ⟨g, off + k * 5 + 3, none⟩) hg).trans (hc 3 _ rfl)
      have f4 : wr.cell? ⟨g, off + k * 5 + 4, none⟩ = some (.int .i64 l[k].fai) := (hb.cell (p := ⟨g, off + k * 5 + 4, none⟩) hg).trans (hc 4 _ rfl)
      have h2 : wr.cell? ⟨g1, 0, none⟩ = some (.string s) := (hb.cell (p := ⟨g1, 0, none⟩) hz).trans h1
      have i1 : (0 : Int) ≤ (k : Int) := by omega
      have i2 : (k : Int) < (l.length : Int) := by omega
      cases hq : starIs s l[k]
      · have hst := hide hq
        clear hc hr hb h1
        go_wp2_with fail
        refine (cloStar_any s g1 _ false hst.out (by assumption)).mono ?_
        rintro e w1 ⟨rfl, hb1⟩
        go_wp2
        go_roundw
        case rel =>
          refine ⟨k + 1, by omega, by go_num, Hb.out.trans (hb1.mono Hb.out.size), fun j hj hj' => ?_⟩
          rcases Nat.lt_or_ge j k with h0 | h0
          · exact hs.out j h0 hj'
          · have : j = k := by omega
            subst this; exact hst.out
        case measure => simp [intOf]; omega
      · have hst := hide hq
        clear hc hr hb h1
        go_wp2_with fail
        refine (cloStar_any s g1 _ true hst.out (by assumption)).mono ?_
        rintro e w1 ⟨rfl, hb1⟩
        go_wp2
        go_ret
        exact ⟨ret_int (idxBy_hit hlt (fun i hi' => hs.out i hi' (by omega)) hst.out).symm, Hb.out.trans (hb1.mono Hb.out.size)⟩
    · obtain rfl : k = l.length := by omega
      clear hr hb
      go_wp2
      go_ret
      exact ⟨ret_int (idxBy_none (fun i hi' => hs.out i hi' hi')).symm, Hb.out⟩
theorem indexOf_Star_any (A : Option Addr) (c : Nat) (l : List StarT) (s : ByteArray) (g1 : Nat) (w : World) (hn : l.length ≤ 1048576) (hr : Rd w w.heap.size 5 A l.length (l.flatMap StarT.cells)) (h1 : w.cell? ⟨g1, 0, none⟩ = some (.string s)) :
    Calls Try.prog 72 #[.slice A l.length c, .func (.func 73) #[] #[.pointer (some ⟨g1, 0, none⟩)]] w fun e w' => e = .returned (.tuple #[.int .i64 (atStar l s).1, .int .i64 (atStar l s).2]) ∧ Below w.heap.size w w' := by
  have HR := hide hr
  have H1 := hide h1
  clear hr h1
  by_cases h : findStar l s < 0
  · have e1 : ¬ 0 ≤ findStar l s := by omega
    have H := hide (show atStar l s = (0, 3) from if_pos h)
    clear h
    go_enter Try.func72, Try.ntmps72
    go_wp2_with fail
    refine (IndexFunc_Star_any A c l s g1 _ hn HR.out H1.out).mono ?_
    rintro e w1 ⟨rfl, hb1⟩
    go_wp2
    go_ret2
    exact ⟨ret2 H.out, hb1⟩
  · have e1 : 0 ≤ findStar l s := by omega
    have H := hide (show atStar l s = (findStar l s, 0) from if_neg h)
    clear h
    go_enter Try.func72, Try.ntmps72
    go_wp2_with fail
    refine (IndexFunc_Star_any A c l s g1 _ hn HR.out H1.out).mono ?_
    rintro e w1 ⟨rfl, hb1⟩
    go_wp2
    go_ret2
    exact ⟨ret2 H.out, hb1⟩
set_option maxHeartbeats 1000000 in
theorem impl_StarNamed_any (A : Option Addr) (c : Nat) (l : List StarT) (s : ByteArray) (w : World) (hn : l.length ≤ 1048576) (hok : ∀ x ∈ l, x.ok) (hr : Rd w w.heap.size 5 A l.length (l.flatMap StarT.cells)) :
    Calls Try.prog 23 #[.slice A l.length c, .string s] w fun e w' => e = .returned (.tuple #[.int .i64 (namedStar l s).1, .int .i64 (namedStar l s).2]) ∧ Below w.heap.size w w' := by
  have HR := hide hr
  have HO := hide hok
  clear hr hok
  have K0 : Kp w [(⟨w.heap.size, 0, none⟩, .string s)] (w.alloc (.cells #[.string s] 9)) := ⟨(Below.refl _ _).alloc (Nat.le_refl _) _, fun p hp => by
    simp only [List.mem_cons, List.not_mem_nil, or_false] at hp
    subst hp
    refine ⟨?_, ?_⟩ <;> simp [go_sem]⟩
  cases h1 : validB starOk starLt 60 l
  · 
    go_enter Try.func23, Try.ntmps23
    go_wp2_with fail
    refine (impl_ValidStars_any A c l _ hn HO.out ((HR.out.alloc (Nat.le_refl _) _).more (by simp))).mono ?_
    rintro e w1 ⟨rfl, b⟩
    have K1 := K0.below b
    have R1 := hide ((HR.out.below (B := w.heap.size) K1.b).more K1.b.size)
    have B1 := hide K1.b
    clear b K0
    go_wp2
    go_ret2
    exact ⟨ret2 (by simp [namedStar, h1]), B1.out⟩
  ·
    go_enter Try.func23, Try.ntmps23
    go_wp2_with fail
    refine (impl_ValidStars_any A c l _ hn HO.out ((HR.out.alloc (Nat.le_refl _) _).more (by simp))).mono ?_
    rintro e w1 ⟨rfl, b⟩
    have K1 := K0.below b
    have R1 := hide ((HR.out.below (B := w.heap.size) K1.b).more K1.b.size)
    have B1 := hide K1.b
    clear b K0
    go_wp2_with fail
    refine (indexOf_Star_any A c l s _ _ hn R1.out K1.at0).mono ?_
    rintro e w2 ⟨rfl, b⟩
    go_wp2
    go_ret2
    exact ⟨ret2 (by simp [namedStar, h1]), B1.out.trans (b.mono B1.out.size)⟩
theorem l04Find_any (A : Option Addr) (c : Nat) (l : List StarT) (s : ByteArray) (w : World) (hn : l.length ≤ 1048576) (hr : Rd w w.heap.size 5 A l.length (l.flatMap StarT.cells)) :
    Calls Try.prog 70 #[.slice A l.length c, .string s] w fun e w' => e = .returned (.int .i64 (findStar l s)) ∧ w = w' := by
  go_enter Try.func70, Try.ntmps70
  go_wp2
  go_loop [5] (fun i => ∃ k : Nat, k ≤ l.length ∧ i = .int .i64 k ∧ Hid (∀ j (h : j < k) (h' : j < l.length), starIs s (l[j]'h') = false)) (fun i => l.length - (intOf i).toNat)
  case atStart => exact ⟨0, by omega, rfl, fun j hj => absurd hj (by omega)⟩
  case round =>
    obtain ⟨k, hk, rfl, hs⟩ := hrel
    by_cases hlt : k < l.length
    · obtain ⟨g, off, rfl, hg, hc⟩ := hr.elem StarT.cells_len hlt
      have f0 : w.cell? ⟨g, off + k * 5, none⟩ = some (.string l[k].name) := hc 0 _ rfl
      have i1 : (0 : Int) ≤ (k : Int) := by omega
      have i2 : (k : Int) < (l.length : Int) := by omega
      clear hc hr
      cases hq : starIs s l[k]
      · have hst := hide hq
        have hq2 : (l[k].name.toList == s.toList) = false := hq
        clear hq
        go_wp2
        go_round
        case rel =>
          refine ⟨k + 1, by omega, by go_num, fun j hj hj' => ?_⟩
          rcases Nat.lt_or_ge j k with h0 | h0
          · exact hs.out j h0 hj'
          · have : j = k := by omega
            subst this; exact hst.out
        case measure => simp [intOf]; omega
      · have hst := hide hq
        have hq2 : (l[k].name.toList == s.toList) = true := hq
        clear hq
        go_wp2
        go_ret
        exact ⟨ret_int (idxBy_hit hlt (fun i hi' => hs.out i hi' (by omega)) hst.out).symm, rfl⟩
    · obtain rfl : k = l.length := by omega
      clear hr
      go_wp2
      go_ret
      exact ⟨ret_int (idxBy_none (fun i hi' => hs.out i hi' hi')).symm, rfl⟩
set_option maxHeartbeats 1000000 in
theorem spec_StarNamed_any (A : Option Addr) (c : Nat) (l : List StarT) (s : ByteArray) (w : World) (hn : l.length ≤ 1048576) (hok : ∀ x ∈ l, x.ok) (hr : Rd w w.heap.size 5 A l.length (l.flatMap StarT.cells)) :
    Calls Try.prog 21 #[.slice A l.length c, .string s] w fun e w' => e = .returned (.tuple #[.int .i64 (namedStar l s).1, .int .i64 (namedStar l s).2]) ∧ Below w.heap.size w w' := by
  have HR := hide hr
  have HO := hide hok
  clear hr hok
  cases h1 : validB starOk starLt 60 l
  · go_enter Try.func21, Try.ntmps21
    go_wp2_with fail
    refine (l04Ok_any A c l _ hn HO.out HR.out).mono ?_
    rintro e w1 ⟨rfl, b⟩
    go_wp2
    go_ret2
    exact ⟨ret2 (by simp [namedStar, h1]), b⟩
  by_cases h : findStar l s < 0
  all_goals
    have H := hide (show namedStar l s = atStar l s from by simp [namedStar, h1])
    have H2 := hide (show atStar l s = if findStar l s < 0 then (0, 3) else (findStar l s, 0) from rfl)
    go_enter Try.func21, Try.ntmps21
    go_wp2_with fail
    refine (l04Ok_any A c l _ hn HO.out HR.out).mono ?_
    rintro e w1 ⟨rfl, b⟩
    have R1 := hide ((HR.out.below b).more b.size)
    have B1 := hide b
    clear b
    go_wp2_with fail
    refine (l04Find_any A c l s _ hn R1.out).mono ?_
    rintro e w' ⟨rfl, rfl⟩
    go_wp2
    go_ret2
    exact ⟨ret2 (by rw [H.out, H2.out]; split <;> first | rfl | omega), B1.out⟩
theorem findStar_end : True := trivial
end Go.Proofs.Ytldgelkgobocdaa
