/-
  Contracts: the insertion sort of a part of a row.
-/
import Derived.Test.YthgppfbepfgelaaAmpB
namespace Go.Proofs.Ythgppfbepfgelaa
open Go.RowKit Pl Go.Sort
set_option linter.unusedVariables false
set_option linter.unusedSimpArgs false
def InL (M : Nat) (D : Array Int) : Prop := ∀ p, p < D.size → 0 ≤ D[p]! ∧ D[p]! < (M : Int)
theorem InL.perm {M a b : Nat} {D D' : Array Int} (h : InL M D) (hp : PermIn a b D D') (hb : b ≤ D.size) : InL M D' := fun p hlt => by
  by_cases h1 : a ≤ p ∧ p < b
  · exact permIn_all D D' a b (fun x => 0 ≤ x ∧ x < (M : Int)) hb hp (fun q q1 q2 => h q (by omega)) p h1.1 h1.2
  · rw [hp.2.1 p (by omega)]; exact h p (by rw [← hp.1]; exact hlt)
theorem cmp_int (A : Option Addr) (c : Nat) (l : List StarT) (lo gb gl : Nat) (x y : Int) (w : World) (hK : KOk l) (hx : 0 ≤ x ∧ x < (l.length : Int)) (hy : 0 ≤ y ∧ y < (l.length : Int)) (H : Finds w lo gb gl A c l) :
    ∀ N, Calls Try.prog 29 #[.int .i64 x, .int .i64 y, .pointer (some ⟨gb, 0, none⟩)] (w.drewN N) fun e w' => e = .returned (.int .i64 (cfk (keyS l) x y)) ∧ ∃ m, w' = (w.drewN N).drewN m := fun N => by
  have h := cmp_any A c l lo gb gl x.toNat y.toNat (w.drewN N) hK (by omega) (by omega) (H.drewN N)
  rw [show ((x.toNat : Nat) : Int) = x by omega, show ((y.toNat : Nat) : Int) = y by omega] at h
  exact h
set_option maxHeartbeats 4000000 in
set_option maxRecDepth 100000 in
theorem insSort_any (A : Option Addr) (c : Nat) (l : List StarT) (g cap lo gb gl a b : Nat) (rest : List Value) (D : Array Int) (w : World) (hR : Rw w g rest D) (hlo : lo ≤ g) (hF : Finds w lo gb gl A c l) (hK : KOk l) (hab : a ≤ b) (hb : b ≤ D.size) (hsz : D.size ≤ 1000) (hD : InL l.length D) (hup : ∀ p q, a ≤ p → p < q → q < b → D[p]! < D[q]!) :
    Calls Try.prog 41 #[.slice (some ⟨g, 0, none⟩) D.size cap, .int .i64 a, .int .i64 b, .func (.func 29) #[] #[.pointer (some ⟨gb, 0, none⟩)]] w fun e w' => e = .returned (.tuple #[]) ∧ (∃ D', Rw w' g rest D' ∧ PermIn a b D D' ∧ SortedIn (alt (keyS l)) a b D') ∧ Below lo w w' := by
  have HR := hide hR
  have HF := hide hF
  have HK := hide hK
  have HD := hide hD
  have HU := hide hup
  clear hR hF hK hD hup
  go_enter Try.func41, Try.ntmps41
  go_wp2_with fail
  go_loopw [8] (fun vi wr => ∃ (i : Nat) (D1 : Array Int), vi = .int .i64 i ∧ a < i ∧ (i ≤ b ∨ i = a + 1) ∧ PermIn a b D D1 ∧ SortedIn (alt (keyS l)) a i D1 ∧ (∀ p q, a ≤ p → p < q → i ≤ q → q < b → D1[p]! < D1[q]!) ∧ Rw wr g rest D1 ∧ Below lo w wr) (fun vi _ => b - (intOf vi).toNat)
  case atStart => exact ⟨a + 1, D, by go_num, by omega, by omega, permIn_refl _ _ _, fun i j h1 h2 h3 => by omega, fun p q h1 h2 h3 h4 => HU.out p q h1 h2 h4, HR.out, Below.refl _ _⟩
  case round =>
    obtain ⟨i, D1, rfl, hai, hib, hp1, hs1, hu1, hr1, hb1⟩ := hrel
    by_cases hlt : i < b
    · have hltz : (i : Int) < (b : Int) := by omega
      have H1 := hide (And.intro hp1 (And.intro hs1 (And.intro hu1 (And.intro hr1 hb1))))
      clear hp1 hs1 hu1 hr1 hb1
      go_wp2_with fail
      go_loopw [9] (fun vj wr => ∃ (j : Nat) (D2 : Array Int), vj = .int .i64 j ∧ a ≤ j ∧ j ≤ i ∧ PermIn a b D D2 ∧ Ins (alt (keyS l)) a j i D2 ∧ (∀ p, a ≤ p → p < j → D2[p]! < D2[j]!) ∧ (∀ p q, a ≤ p → p < q → i + 1 ≤ q → q < b → D2[p]! < D2[q]!) ∧ Rw wr g rest D2 ∧ Below lo w wr) (fun vj _ => (intOf vj).toNat)
      case atStart =>
        obtain ⟨hp1, hs1, hu1, hr1, hb1⟩ := H1.out
        exact ⟨i, D1, rfl, by omega, Nat.le_refl _, hp1, ⟨fun p q a1 a2 a3 a4 a5 => hs1 p q a1 a2 (by omega), fun q a1 a2 => by omega⟩, fun p a1 a2 => hu1 p i a1 a2 (Nat.le_refl _) hlt, fun p q a1 a2 a3 a4 => hu1 p q a1 a2 (by omega) a4, hr1, hb1⟩
      case round =>
        obtain ⟨j, D2, rfl, haj, hji, hp2, hi2, hl2, hu2, hr, hb2⟩ := hrel
        have hS2 : D2.size = D.size := hp2.1
        have H2 := hide (And.intro hp2 (And.intro hi2 (And.intro hl2 (And.intro hu2 (And.intro hr hb2)))))
        by_cases hja : a < j
        · obtain ⟨p, hp⟩ : ∃ p, p = j - 1 := ⟨_, rfl⟩
          have hwp : IntKind.i64.wrap ((j : Int) - 1) = (p : Int) := by rw [IntKind.wrap_i64]; omega
          have jz : (j : Int) < (D.size : Int) := by omega
          have jz1 : (p : Int) < (D.size : Int) := by omega
          have j0 : (0 : Int) ≤ (j : Int) := by omega
          have j1 : (0 : Int) ≤ (p : Int) := by omega
          have hjaz : (a : Int) < (j : Int) := by omega
          have hne : j ≠ p := by omega
          have hpj : p < j := by omega
          have f1 := hr.cell (p := j) (by omega)
          have f2 := hr.cell (p := p) (by omega)
          have z1 := hr.frozen j
          have z2 := hr.frozen p
          have hL := HD.out.perm hp2 hb
          have ha1 := alt_up (key := keyS l) (hl2 p (by omega) (by omega))
          have hC := cmp_int A c l lo gb gl D2[j]! D2[p]! wr HK.out (hL j (by omega)) (hL p (by omega)) (HF.out.below hb2)
          obtain ⟨x, hx⟩ : ∃ x, x = D2[j]! := ⟨_, rfl⟩
          obtain ⟨y, hy⟩ : ∃ y, y = D2[p]! := ⟨_, rfl⟩
          obtain ⟨v, hv⟩ : ∃ v, v = cfk (keyS l) x y := ⟨_, rfl⟩
          rw [← hx] at f1
          rw [← hy] at f2
          rw [← hx, ← hy, ← hv] at hC ha1
          have HC := hide hC
          have HX := hide (And.intro hx (And.intro hy (And.intro ha1 hp)))
          clear hp2 hi2 hl2 hu2 hr hb2 hL ha1 hC hx hy hv hp
          by_cases hlv : v < 0
          · go_wp2_with fail
            go_quiet ((go_at_call 29; with_reducible first | exact Calls.quiet_of (HC.out _) | exact qadd_ex (HC.out _)))
            go_wp2_with fail
            go_region
            all_goals
              go_wp2
              go_roundw
              case rel =>
                obtain ⟨hp2, hi2, hl2, hu2, hr, hb2⟩ := H2.out
                obtain ⟨hx, hy, ha1, hp⟩ := HX.out
                obtain rfl : j = p + 1 := by omega
                have hal : alt (keyS l) D2[p + 1]! D2[p]! = true := by rw [← hx, ← hy, ha1]; simp [hlv]
                have h := ((hr.drewN nq).drew.swp (i := p + 1) (j := p) (by omega) (by omega))
                rw [← hx, ← hy] at h
                have g1 := swp_get D2 (i := p + 1) (j := p) (by omega) (by omega)
                refine ⟨p, swp D2 (p + 1) p, rfl, by omega, by omega, permIn_trans _ _ _ _ _ hp2 (swp_permIn _ _ _ _ _ (by omega) (by omega) (by omega) (by omega) (by omega)), hi2.step hal (by omega) (by omega), fun r r1 r2 => ?_, fun r q r1 r2 r3 r4 => ?_, h, (((below_drewN hb2 _).setCell hlo _).setCell hlo _)⟩
                · rw [g1, g1, if_neg (by omega), if_neg (by omega), if_pos rfl]; exact hl2 r r1 (by omega)
                · rw [g1, g1, if_neg (show ¬ q = p by omega), if_neg (show ¬ q = p + 1 by omega)]
                  split
                  · exact hu2 _ q (by omega) (by omega) r3 r4
                  · split
                    · exact hu2 _ q (by omega) (by omega) r3 r4
                    · exact hu2 r q r1 r2 r3 r4
              case measure => simp [intOf]; omega
          · go_wp2_with fail
            go_quiet ((go_at_call 29; with_reducible first | exact Calls.quiet_of (HC.out _) | exact qadd_ex (HC.out _)))
            go_wp2
            go_roundw
            case rel =>
              obtain ⟨hp2, hi2, hl2, hu2, hr, hb2⟩ := H2.out
              obtain ⟨hx, hy, ha1, hp⟩ := HX.out
              have hal : alt (keyS l) D2[j]! D2[j - 1]! = false := by rw [← hp, ← hx, ← hy, ha1]; simp [hlv]
              exact ⟨i + 1, D2, by go_num, by omega, by omega, hp2, hi2.stop (alt_swo _) (Or.inr hal), fun p q a1 a2 a3 a4 => hu2 p q a1 a2 a3 a4, hr.drewN _, below_drewN hb2 _⟩
            case measure => simp [intOf]; omega
        · have hjd : decide ((a : Int) < (j : Int)) = false := by simp; omega
          clear hp2 hi2 hl2 hu2 hr hb2
          go_wp2_with fail
          go_quiet (fail)
          go_wp2
          go_roundw
          case rel =>
            obtain ⟨hp2, hi2, hl2, hu2, hr, hb2⟩ := H2.out
            exact ⟨i + 1, D2, by go_num, by omega, by omega, hp2, hi2.stop (alt_swo _) (Or.inl (by omega)), fun p q a1 a2 a3 a4 => hu2 p q a1 a2 a3 a4, hr.drewN _, below_drewN hb2 _⟩
          case measure => simp [intOf]; omega
    · have HX := hide (And.intro hp1 (And.intro hs1 (And.intro hr1 hb1)))
      clear hp1 hs1 hu1 hr1 hb1
      go_wp2
      go_end0
      obtain ⟨hp1, hs1, hr1, hb1⟩ := HX.out
      exact ⟨rfl, ⟨D1, hr1, hp1, fun p q a1 a2 a3 => hs1 p q a1 a2 (by omega)⟩, hb1⟩
theorem ampC_end : True := trivial
end Go.Proofs.Ythgppfbepfgelaa
