/-
  Contracts: the order of the numbers below n by their keys.
-/
import Derived.Test.YthgppfbepfgelaaAmpF
import Derived.Test.YthgppfbepfgelaaAmpQ
namespace Go.Proofs.Ythgppfbepfgelaa
open Go.RowKit Pl Go.Sort
set_option linter.unusedVariables false
set_option linter.unusedSimpArgs false
theorem stable_any (A : Option Addr) (c : Nat) (l : List StarT) (g cap lo gb gl n : Nat) (rest : List Value) (D0 : Array Int) (w0 : World) (hR : Rw w0 g rest D0) (hlo : lo ≤ g) (hF : Finds w0 lo gb gl A c l) (hK : KOk l) (hs : D0.size = n) (hM : n ≤ l.length) (hid : Ids 0 n D0) (hn : n ≤ 60) :
    Calls Try.prog 37 #[.slice (some ⟨g, 0, none⟩) n cap, .int .i64 n, .func (.func 29) #[] #[.pointer (some ⟨gb, 0, none⟩)]] w0 fun e w' => e = .returned (.tuple #[]) ∧ (∃ D', Rw w' g rest D' ∧ PermIn 0 n D0 D' ∧ SortedIn (alt (keyS l)) 0 n D') ∧ Below lo w0 w' := by
  by_cases h1 : n < 20
  · exact stableA_any A c l g cap lo gb gl n rest D0 w0 hR hlo hF hK hs hM hid h1
  by_cases h2 : n < 21
  · exact stableBz_any A c l g cap lo gb gl n rest D0 w0 hR hlo hF hK hs hM hid ⟨by omega, h2⟩
  by_cases h3 : n < 40
  · exact stableB_any A c l g cap lo gb gl n rest D0 w0 hR hlo hF hK hs hM hid (by omega) h3
  by_cases h4 : n < 41
  · exact stableCz_any A c l g cap lo gb gl n rest D0 w0 hR hlo hF hK hs hM hid ⟨by omega, h4⟩
  by_cases h5 : n < 60
  · exact stableC_any A c l g cap lo gb gl n rest D0 w0 hR hlo hF hK hs hM hid (by omega) h5
  · exact stableD_any A c l g cap lo gb gl n rest D0 w0 hR hlo hF hK hs hM hid ⟨by omega, by omega⟩
theorem sortStable_any (A : Option Addr) (c : Nat) (l : List StarT) (g cap lo gb gl n : Nat) (rest : List Value) (D0 : Array Int) (w0 : World) (hR : Rw w0 g rest D0) (hlo : lo ≤ g) (hF : Finds w0 lo gb gl A c l) (hK : KOk l) (hs : D0.size = n) (hM : n ≤ l.length) (hid : Ids 0 n D0) (hn : n ≤ 60) :
    Calls Try.prog 28 #[.slice (some ⟨g, 0, none⟩) n cap, .func (.func 29) #[] #[.pointer (some ⟨gb, 0, none⟩)]] w0 fun e w' => e = .returned (.tuple #[]) ∧ (∃ D', Rw w' g rest D' ∧ PermIn 0 n D0 D' ∧ SortedIn (alt (keyS l)) 0 n D') ∧ Below lo w0 w' := by
  have HC := hide (stable_any A c l g cap lo gb gl n rest D0 w0 hR hlo hF hK hs hM hid hn)
  clear hR hF hK hs hM hid
  go_enter Try.func28, Try.ntmps28
  go_wp2_with fail
  refine HC.out.mono ?_
  rintro e w1 ⟨rfl, x1, x2⟩
  have HX := hide (And.intro x1 x2)
  clear x1 x2
  go_wp2
  go_end0
  exact ⟨rfl, HX.out.1, HX.out.2⟩
theorem cloAll_any (i : Nat) (w : World) : Calls Try.prog 27 #[.int .i64 i] w fun e w' => e = .returned (.bool true) ∧ w = w' := by
  go_enter Try.func27, Try.ntmps27
  go_wp2
  go_ret
  exact ⟨rfl, rfl⟩
set_option maxHeartbeats 2000000 in
set_option maxRecDepth 100000 in
theorem indicesAll_any (N : Nat) (w : World) (hn : N ≤ 1048576) :
    Calls Try.prog 26 #[.int .i64 N, .func (.func 27) #[] #[]] w fun e w' => ∃ g c', e = .returned (.slice (some ⟨g, 0, none⟩) N c') ∧ Own w' w.heap.size 2 1 (some ⟨g, 0, none⟩) N c' (ints ((List.range N).map fun p : Nat => (p : Int))) ∧ Below w.heap.size w w' := by
  obtain ⟨i0, hi, hz0, hz1, hz2⟩ := info_parts info_int
  go_enter Try.func26, Try.ntmps26
  go_wp2_with fail
  go_loopw [5, 9] (fun v i wr => ∃ k : Nat, k ≤ N ∧ i = .int .i64 k ∧ Below w.heap.size w wr ∧ ∃ g c', v = .slice (some ⟨g, 0, none⟩) k c' ∧ Own wr w.heap.size 2 1 (some ⟨g, 0, none⟩) k c' (ints ((List.range k).map fun p : Nat => (p : Int)))) (fun _ i _ => N - (intOf i).toNat)
  case atStart => exact ⟨0, by omega, rfl, (Below.refl _ _).alloc (Nat.le_refl _) _, _, _, rfl, Own.empty_ _ _ _ (Nat.le_refl _)⟩
  case round =>
    obtain ⟨k, hk, rfl, hb, g, c', rfl, hown⟩ := hrel
    have Hb := hide hb
    have HW := hide hown
    clear hown
    by_cases hlt : k < N
    · have j1 : (0 : Int) ≤ (k : Int) := by omega
      have j2 : (k : Int) < (N : Int) := by omega
      have HN := hide (show ints ((List.range (k + 1)).map fun p : Nat => (p : Int)) = ints ((List.range k).map fun p : Nat => (p : Int)) ++ [.int .i64 (k : Int)] by rw [List.range_succ, List.map_append, ints_app]; rfl)
      clear hb
      go_wp2_with fail
      refine (cloAll_any k _).mono ?_
      rintro e w1 ⟨rfl, rfl⟩
      go_wp2_with (at_builtin; refine wpList_append_own _ rfl _ _ 24 rfl w.heap.size 2 i0 (.int .i64 0) 1 8 Try.underlying24 hi hz0 hz1 hz2 rfl (by decide) _ _ _ rfl (HW.out.alloc _) ⟨wr.heap.size, 0, none⟩ 1 1 [.int .i64 k] rfl rfl ?c1 ?c2 ?c3 ?c4 ?c5 ?_)
      case c1 => exact c1_new rfl
      case c2 => intro u hu; simp at hu; subst hu; rfl
      case c3 => unfold maxLen; omega
      case c4 => omega
      case c5 => have := Hb.out.size; simp; omega
      intro v' wy hown' hgrow hnil
      obtain ⟨Az, cz, rfl, hown2⟩ := Own.more (zs := ints ((List.range (k + 1)).map fun p : Nat => (p : Int))) hown' rfl HN.out.symm
      obtain ⟨gz, rfl⟩ : ∃ gz, Az = some ⟨gz, 0, none⟩ := by
        obtain ⟨_, _, _, ⟨_, h0, _⟩ | ⟨gz, _, h0, _⟩⟩ := hown2.parts
        · omega
        · exact ⟨gz, h0⟩
      have HX := hide (And.intro hown2 hgrow)
      clear hown' hgrow hown2 hnil
      go_wp2
      go_roundw
      case rel =>
        obtain ⟨h1, h2⟩ := HX.out
        exact ⟨k + 1, by omega, by go_num, (Hb.out.alloc Hb.out.size _).grown h2 (by have := Hb.out.size; simp; omega) (fun j hj => (HW.out.lt hj).1), gz, cz, rfl, h1⟩
      case measure => simp [intOf]; omega
    · obtain rfl : k = N := by omega
      clear hb
      go_wp2
      go_ret
      exact ⟨g, c', rfl, HW.out, Hb.out⟩
/-- A row of the call's own as a whole block. -/
theorem own_rw {w : World} {lo g n c : Nat} {L : List Int} (h : Own w lo 2 1 (some ⟨g, 0, none⟩) n c (ints L)) : ∃ rest : List Value, Rw w g rest L.toArray ∧ L.length = n ∧ lo ≤ g ∧ n + rest.length = c ∧ c ≤ maxLen := by
  obtain ⟨h1, h2, h3, ⟨h4, _⟩ | ⟨g', cur, h4, hlo, hB, hs, ht⟩⟩ := h.parts
  · cases h4
  · have hl : L.length = n := by simpa [ints] using h1
    have e : g = g' := by injection h4 with h4; injection h4
    subst e
    refine ⟨cur.toList.drop n, ?_, hl, hlo, by simp [hs]; omega, h3⟩
    unfold Rw
    have e2 : ints L.toArray.toList ++ cur.toList.drop n = cur.toList := by
      rw [Nat.mul_one] at ht
      rw [← ht]
      exact List.take_append_drop n cur.toList
    rw [e2]
    simpa using hB
theorem rw_own {w : World} {lo g n c : Nat} {rest : List Value} {D : Array Int} (h : Rw w g rest D) (hlo : lo ≤ g) (hs : D.size = n) (hc : n + rest.length = c) (hm : c ≤ maxLen) : Own w lo 2 1 (some ⟨g, 0, none⟩) n c (ints D.toList) :=
  Own.mk_ (by simp [ints, hs]) (by omega) hm hlo h (by simp [ints, hs, hc]) (by
    rw [Nat.mul_one, List.toList_toArray, List.take_left' (by simp [ints, hs])])
set_option maxHeartbeats 2000000 in
theorem orderBy_any (A : Option Addr) (c : Nat) (l : List StarT) (gl : Nat) (w : World) (hgl : gl < w.heap.size) (hc : w.cell? ⟨gl, 0, none⟩ = some (.slice A l.length c)) (hr : Rd w w.heap.size 5 A l.length (l.flatMap StarT.cells)) (hK : KOk l) (hn : l.length ≤ 60) :
    Calls Try.prog 18 #[.int .i64 l.length, .func (.func 19) #[] #[.pointer (some ⟨gl, 0, none⟩)]] w fun e w' => ∃ A' c', e = .returned (.slice A' l.length c') ∧ Own w' w.heap.size 2 1 A' l.length c' (ints (ampL (keyS l) l.length)) ∧ Below w.heap.size w w' := by
  have HR := hide hr
  have HK := hide hK
  have HC := hide hc
  clear hr hK hc
  go_enter Try.func18, Try.ntmps18
  go_wp2_with fail
  obtain ⟨w0, hw0⟩ : ∃ w0, w0 = w.alloc (.cells #[.func (.func 19) #[] #[.pointer (some ⟨gl, 0, none⟩)]] 42) := ⟨_, rfl⟩
  rw [← hw0]
  have hz0 : w0.heap.size = w.heap.size + 1 := by rw [hw0]; simp
  have E0 := hide (show Below w.heap.size w w0 from hw0 ▸ (Below.refl _ _).alloc (Nat.le_refl _) _)
  have C0 := hide (show w0.cell? ⟨w.heap.size, 0, none⟩ = some (.func (.func 19) #[] #[.pointer (some ⟨gl, 0, none⟩)]) from by rw [hw0]; simp [go_sem])
  clear hw0
  refine (indicesAll_any l.length w0 (by omega)).mono ?_
  rintro e w1 ⟨g, c', rfl, o1, b1⟩
  obtain ⟨rest, hrw, hlen, hlg, hcc, hml⟩ := own_rw o1
  obtain ⟨D0, hD0⟩ : ∃ D0 : Array Int, D0 = ((List.range l.length).map fun p : Nat => (p : Int)).toArray := ⟨_, rfl⟩
  rw [← hD0] at hrw
  have hs0 : D0.size = l.length := by rw [hD0]; simp
  have hid : Ids 0 l.length D0 := fun p _ h2 => by rw [getElem!_pos D0 p (by omega)]; simp [hD0]
  have hL0 : D0.toList = (List.range l.length).map fun p : Nat => (p : Int) := by rw [hD0]
  have hF : Finds w1 (w.heap.size + 1) w.heap.size gl A c l := ⟨by omega, by omega, (b1.cell (p := ⟨w.heap.size, 0, none⟩) (by simp; omega)).trans C0.out, (b1.cell (p := ⟨gl, 0, none⟩) (by simp; omega)).trans ((E0.out.cell (p := ⟨gl, 0, none⟩) hgl).trans HC.out), ((HR.out.below E0.out).more (Nat.le_succ _)).below (b1.mono (by omega))⟩
  have HS := hide (sortStable_any A c l g c' (w.heap.size + 1) w.heap.size gl l.length rest D0 w1 hrw (by omega) hF HK.out hs0 (Nat.le_refl _) hid hn)
  have HL := hide (And.intro hL0 (And.intro hs0 (And.intro hlg (And.intro hcc (And.intro hml b1)))))
  clear hL0 hs0 hlg hcc hml b1 hid hF hrw hlen o1 hD0
  go_wp2_with fail
  refine HS.out.mono ?_
  rintro e w2 ⟨rfl, ⟨D1, y1, y2, y3⟩, y4⟩
  have HX := hide (And.intro y1 (And.intro y2 (And.intro y3 y4)))
  clear y1 y2 y3 y4
  go_wp2
  go_ret
  obtain ⟨y1, y2, y3, y4⟩ := HX.out
  obtain ⟨hL0, hs0, hlg, hcc, hml, b1⟩ := HL.out
  have h := rw_own (lo := w.heap.size) y1 (by omega) (y2.1.trans hs0) hcc hml
  rw [amp_unique (keyS l) hL0 y2 y3] at h
  exact ⟨_, c', rfl, h, E0.out.trans ((b1.mono (by omega)).trans (y4.mono (by omega)))⟩
def ampOf (l : List StarT) : List Int × Int := if validB starOk starLt 60 l = true then (ampL (keyS l) l.length, 0) else ([], 1)
theorem ampOf_le (l : List StarT) : (ampOf l).1.length ≤ l.length := by
  unfold ampOf
  split
  · exact Nat.le_of_eq (ampL_len _ _)
  · simp
theorem kok {l : List StarT} (h : validB starOk starLt 60 l = true) : KOk l ∧ l.length ≤ 60 := by
  obtain ⟨h1, h2⟩ := valid_all h
  refine ⟨fun i hi => ?_, h1⟩
  have := h2 i hi
  simp only [starOk, starB, inB, Bool.and_eq_true, decide_eq_true_eq] at this
  omega
set_option maxHeartbeats 2000000 in
theorem impl_ByAmplitude_any (A : Option Addr) (c : Nat) (l : List StarT) (w : World) (hn : l.length ≤ 1048576) (hok : ∀ x ∈ l, x.ok) (hr : Rd w w.heap.size 5 A l.length (l.flatMap StarT.cells)) :
    Calls Try.prog 7 #[.slice A l.length c] w fun e w' => ∃ A' c', e = .returned (.tuple #[.slice A' (ampOf l).1.length c', .int .i64 (ampOf l).2]) ∧ Own w' w.heap.size 2 1 A' (ampOf l).1.length c' (ints (ampOf l).1) ∧ Below w.heap.size w w' := by
  have HR := hide hr
  have HO := hide hok
  clear hr hok
  have K0 : Kp w [(⟨w.heap.size, 0, none⟩, .slice A l.length c)] (w.alloc (.cells #[.slice A l.length c] 27)) := ⟨(Below.refl _ _).alloc (Nat.le_refl _) _, fun p hp => by
    simp only [List.mem_cons, List.not_mem_nil, or_false] at hp
    subst hp
    refine ⟨?_, ?_⟩ <;> simp [go_sem]⟩
  cases h1 : validB starOk starLt 60 l
  · rw [show ampOf l = ([], 1) from by simp [ampOf, h1]]
    go_enter Try.func7, Try.ntmps7
    go_wp2_with fail
    refine (impl_ValidStars_any A c l _ hn HO.out ((HR.out.below K0.b).more K0.b.size)).mono ?_
    rintro e w1 ⟨rfl, b⟩
    have B1 := hide (K0.below b).b
    clear b K0
    go_wp2
    go_ret2
    exact ⟨none, 0, rfl, Own.none_, B1.out⟩
  · obtain ⟨hK, h60⟩ := kok h1
    rw [show ampOf l = (ampL (keyS l) l.length, 0) from by simp [ampOf, h1]]
    have HK := hide hK
    rw [ampL_len]
    clear hK
    go_enter Try.func7, Try.ntmps7
    go_wp2_with fail
    refine (impl_ValidStars_any A c l _ hn HO.out ((HR.out.below K0.b).more K0.b.size)).mono ?_
    rintro e w1 ⟨rfl, b⟩
    have K1 := K0.below b
    have k0 := K1.at0
    have B1 := hide K1.b
    have R1 := hide ((HR.out.below K1.b).more K1.b.size)
    have hlt : w.heap.size < w1.heap.size := (K1.c (⟨w.heap.size, 0, none⟩, .slice A l.length c) (by simp)).2
    clear b K0 K1
    go_wp2_with fail
    refine (orderBy_any A c l w.heap.size w1 hlt k0 R1.out HK.out h60).mono ?_
    rintro e w2 ⟨A', c', rfl, hown, hb⟩
    have HX := hide (And.intro hown hb)
    clear hown hb
    go_wp2
    go_ret2
    exact ⟨A', c', rfl, HX.out.1.base B1.out.size, B1.out.trans (HX.out.2.mono B1.out.size)⟩
theorem ampG_end : True := trivial
end Go.Proofs.Ythgppfbepfgelaa
