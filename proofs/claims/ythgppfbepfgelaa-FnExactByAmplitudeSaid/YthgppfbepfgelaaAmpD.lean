/-
  Contracts: the merge in place.
-/
import Derived.Test.YthgppfbepfgelaaAmpC
namespace Go.Proofs.Ythgppfbepfgelaa
open Go.RowKit Pl Go.Sort
set_option linter.unusedVariables false
set_option linter.unusedSimpArgs false
theorem swo_low {lt : Int → Int → Bool} (hS : SWO lt) {x y z : Int} (h1 : lt z y = false) (h2 : lt z x = true) : lt y x = true := by
  cases h : lt y x
  · have := hS.ntrans _ _ _ h1 h
    rw [h2] at this; cases this
  · rfl
theorem swo_up {lt : Int → Int → Bool} (hS : SWO lt) {x y z : Int} (h1 : lt y z = false) (h2 : lt x z = true) : lt x y = true := by
  cases h : lt x y
  · have := hS.ntrans _ _ _ h h1
    rw [h2] at this; cases this
  · rfl
set_option maxHeartbeats 4000000 in
set_option maxRecDepth 100000 in
theorem sym1_any (A : Option Addr) (c : Nat) (l : List StarT) (g cap lo gb gl a m b : Nat) (rest : List Value) (D : Array Int) (w : World) (hR : Rw w g rest D) (hlo : lo ≤ g) (hF : Finds w lo gb gl A c l) (hK : KOk l) (ham : a < m) (hmb : m < b) (hb : b ≤ D.size) (hsz : D.size ≤ 1000) (hD : InL l.length D) (hT : Two (alt (keyS l)) a m b D) (h1 : m = a + 1) :
    Calls Try.prog 42 #[.slice (some ⟨g, 0, none⟩) D.size cap, .int .i64 a, .int .i64 m, .int .i64 b, .func (.func 29) #[] #[.pointer (some ⟨gb, 0, none⟩)]] w fun e w' => e = .returned (.tuple #[]) ∧ (∃ D', Rw w' g rest D' ∧ PermIn a b D D' ∧ SortedIn (alt (keyS l)) a b D') ∧ Below lo w w' := by
  have HR := hide hR
  have HF := hide hF
  have HK := hide hK
  have HD := hide hD
  have HT := hide hT
  clear hR hF hK hD hT
  have hw0 : IntKind.i64.wrap ((m : Int) - (a : Int)) = 1 := by rw [IntKind.wrap_i64]; omega
  have H1 := hide h1
  clear h1
  go_enter Try.func42, Try.ntmps42
  go_wp2_with fail
  go_loopw [10, 11] (fun vi vj wr => ∃ i j : Nat, vi = .int .i64 i ∧ vj = .int .i64 j ∧ m ≤ i ∧ i ≤ j ∧ j ≤ b ∧ (∀ p, m ≤ p → p < i → alt (keyS l) D[p]! D[a]! = true) ∧ (∀ p, j ≤ p → p < b → alt (keyS l) D[p]! D[a]! = false) ∧ Rw wr g rest D ∧ Below lo w wr) (fun vi vj _ => (intOf vj).toNat - (intOf vi).toNat)
  case atStart => exact ⟨m, b, rfl, rfl, Nat.le_refl _, by omega, Nat.le_refl _, fun p p1 p2 => by omega, fun p p1 p2 => by omega, HR.out, Below.refl _ _⟩
  case round =>
    obtain ⟨i, j, rfl, rfl, hmi, hij, hjb, hA, hB, hr, hbl⟩ := hrel
    have HA := hide hA
    have HB := hide hB
    have HW := hide hr
    have HL := hide hbl
    by_cases hlt : i < j
    · have hltz : (i : Int) < (j : Int) := by omega
      obtain ⟨h, hh⟩ : ∃ h : Nat, h = (i + j) / 2 := ⟨_, rfl⟩
      have hhz : (((i : Nat) : Int) + ((j : Nat) : Int)) / 2 = ((h : Nat) : Int) := by omega
      have hih : i ≤ h := by omega
      have hhj : h < j := by omega
      have hmh : m ≤ h := by omega
      clear hh hA hB
      have f1 := hr.cell (p := h) (by omega)
      have f2 := hr.cell (p := a) (by omega)
      have i1 : (0 : Int) ≤ (h : Int) := by omega
      have i2 : (h : Int) < (D.size : Int) := by omega
      have i3 : (0 : Int) ≤ (a : Int) := by omega
      have i4 : (a : Int) < (D.size : Int) := by omega
      have ha1 := alt_up (key := keyS l) (HT.out.x a h (Nat.le_refl _) ham hmh (by omega))
      have hC := cmp_int A c l lo gb gl D[h]! D[a]! wr HK.out (HD.out h (by omega)) (HD.out a (by omega)) (HF.out.below hbl)
      obtain ⟨x, hx⟩ : ∃ x, x = D[h]! := ⟨_, rfl⟩
      obtain ⟨y, hy⟩ : ∃ y, y = D[a]! := ⟨_, rfl⟩
      obtain ⟨v, hv⟩ : ∃ v, v = cfk (keyS l) x y := ⟨_, rfl⟩
      rw [← hx] at f1
      rw [← hy] at f2
      rw [← hx, ← hy, ← hv] at hC
      rw [← hx, ← hy, ← hv, hx, hy] at ha1
      have HC := hide hC
      have HA1 := hide ha1
      clear ha1 hC hx hy hv
      clear hr hbl
      by_cases hlv : v < 0
      · go_wp2_with fail
        go_quiet ((go_at_call 29; with_reducible first | exact Calls.quiet_of (HC.out _) | exact qadd_ex (HC.out _)))
        go_wp2
        go_roundw
        case rel =>
          have h1 : alt (keyS l) D[h]! D[a]! = true := by rw [HA1.out]; simp [hlv]
          refine ⟨h + 1, j, by go_num, rfl, by omega, by omega, hjb, fun p p1 p2 => ?_, HB.out, HW.out.drewN _, below_drewN HL.out _⟩
          by_cases e : p = h
          · rw [e]; exact h1
          · exact swo_low (alt_swo _) (HT.out.r p h p1 (by omega) (by omega)) h1
        case measure => simp [intOf]; omega
      · go_wp2_with fail
        go_quiet ((go_at_call 29; with_reducible first | exact Calls.quiet_of (HC.out _) | exact qadd_ex (HC.out _)))
        go_wp2
        go_roundw
        case rel =>
          have h1 : alt (keyS l) D[h]! D[a]! = false := by rw [HA1.out]; simp [hlv]
          refine ⟨i, h, rfl, rfl, hmi, by omega, by omega, HA.out, fun p p1 p2 => ?_, HW.out.drewN _, below_drewN HL.out _⟩
          by_cases e : p = h
          · rw [e]; exact h1
          · exact (alt_swo _).ntrans _ _ _ (HT.out.r h p hmh (by omega) p2) h1
        case measure => simp [intOf]; omega
    · have eij : i = j := by omega
      have HB2 := hide (show ∀ p, i ≤ p → p < b → alt (keyS l) D[p]! D[a]! = false by rw [eij]; exact HB.out)
      have HIB := hide (show i ≤ b by omega)
      clear hA hB hr hbl eij
      go_wp2_with fail
      go_loopw [13] (fun vk wr => ∃ (k : Nat) (D1 : Array Int), vk = .int .i64 k ∧ a ≤ k ∧ k ≤ i - 1 ∧ (∀ p, D1[p]! = if a ≤ p ∧ p < k then D[p + 1]! else if p = k then D[a]! else D[p]!) ∧ PermIn a b D D1 ∧ Rw wr g rest D1 ∧ Below lo w wr) (fun vk _ => i - (intOf vk).toNat)
      case atStart =>
        refine ⟨a, D, rfl, Nat.le_refl _, by omega, fun p => ?_, permIn_refl _ _ _, HW.out, HL.out⟩
        rw [if_neg (by omega)]
        split
        · subst_vars; rfl
        · rfl
      case round =>
        obtain ⟨k, D1, rfl, hak, hki, hg, hp1, hr, hbl⟩ := hrel
        have hS1 : D1.size = D.size := hp1.1
        have HG := hide hg
        have HP1 := hide hp1
        have HW1 := hide hr
        have HL1 := hide hbl
        have hib := HIB.out
        by_cases hki2 : k < i - 1
        · have hz : (k : Int) < (i : Int) - 1 := by omega
          have f1 := hr.cell (p := k) (by omega)
          have f2 := hr.cell (p := k + 1) (by omega)
          have z1 := hr.frozen k
          have z2 := hr.frozen (k + 1)
          have i1 : (0 : Int) ≤ (k : Int) := by omega
          have i2 : (k : Int) < (D.size : Int) := by omega
          have i3 : (0 : Int) ≤ (k : Int) + 1 := by omega
          have i4 : (k : Int) + 1 < (D.size : Int) := by omega
          obtain ⟨x, hx⟩ : ∃ x, x = D1[k]! := ⟨_, rfl⟩
          obtain ⟨y, hy⟩ : ∃ y, y = D1[k + 1]! := ⟨_, rfl⟩
          rw [← hx] at f1
          rw [← hy] at f2
          have HX := hide (And.intro hx hy)
          clear hx hy
          clear hg hp1 hr hbl
          go_wp2_with fail
          go_region
          all_goals
            go_wp2
            go_roundw
            case rel =>
              obtain ⟨hx, hy⟩ := HX.out
              have h := HW1.out.swp (i := k) (j := k + 1) (by omega) (by omega)
              rw [← hx, ← hy] at h
              have g1 := swp_get D1 (i := k) (j := k + 1) (by omega) (by omega)
              refine ⟨k + 1, swp D1 k (k + 1), by go_num, by omega, by omega, fun p => ?_, permIn_trans _ _ _ _ _ HP1.out (swp_permIn _ _ _ _ _ (by omega) (by omega) (by omega) (by omega) (by omega)), h, ((HL1.out.setCell hlo _).setCell hlo _).drew⟩
              rw [g1]
              by_cases e1 : p = k + 1
              · rw [if_pos e1, if_neg (show ¬ (a ≤ p ∧ p < k + 1) by omega), if_pos e1, HG.out, if_neg (by omega), if_pos rfl]
              · rw [if_neg e1, if_neg e1]
                by_cases e2 : p = k
                · rw [if_pos e2, if_pos (show a ≤ p ∧ p < k + 1 by omega), HG.out, if_neg (by omega), if_neg (by omega), e2]
                · rw [if_neg e2, HG.out]
                  by_cases e3 : a ≤ p ∧ p < k
                  · rw [if_pos e3, if_pos (show a ≤ p ∧ p < k + 1 by omega)]
                  · rw [if_neg e3, if_neg e2, if_neg (show ¬ (a ≤ p ∧ p < k + 1) by omega)]
            case measure => simp [intOf]; omega
        · have hz : ¬ (k : Int) < (i : Int) - 1 := by omega
          have ek : k = i - 1 := by omega
          clear hg hp1 hr hbl
          go_wp2
          refine bodyPost_ret (results_none rfl _ _ _) rfl ?_
          have hT2 : Two (alt (keyS l)) a (a + 1) b D := by have := HT.out; rw [H1.out] at this; exact this
          exact ⟨rfl, ⟨D1, HW1.out, HP1.out, up_sorted hT2 (by have := H1.out; omega) hib (alt_swo _) (fun p p1 p2 => HA.out p (by have := H1.out; omega) p2) HB2.out (by rw [← ek]; exact HG.out)⟩, HL1.out⟩
set_option maxHeartbeats 4000000 in
set_option maxRecDepth 100000 in
theorem sym2_any (A : Option Addr) (c : Nat) (l : List StarT) (g cap lo gb gl a m b : Nat) (rest : List Value) (D : Array Int) (w : World) (hR : Rw w g rest D) (hlo : lo ≤ g) (hF : Finds w lo gb gl A c l) (hK : KOk l) (ham : a < m) (hmb : m < b) (hb : b ≤ D.size) (hsz : D.size ≤ 1000) (hD : InL l.length D) (hT : Two (alt (keyS l)) a m b D) (h0 : m ≠ a + 1) (h1 : b = m + 1) :
    Calls Try.prog 42 #[.slice (some ⟨g, 0, none⟩) D.size cap, .int .i64 a, .int .i64 m, .int .i64 b, .func (.func 29) #[] #[.pointer (some ⟨gb, 0, none⟩)]] w fun e w' => e = .returned (.tuple #[]) ∧ (∃ D', Rw w' g rest D' ∧ PermIn a b D D' ∧ SortedIn (alt (keyS l)) a b D') ∧ Below lo w w' := by
  have HR := hide hR
  have HF := hide hF
  have HK := hide hK
  have HD := hide hD
  have HT := hide hT
  clear hR hF hK hD hT
  obtain ⟨na, hna⟩ : ∃ na, na = m - a := ⟨_, rfl⟩
  have hw0 : IntKind.i64.wrap ((m : Int) - (a : Int)) = (na : Int) := by rw [IntKind.wrap_i64]; omega
  have hd0 : ((na : Int) == 1) = false := by rw [beq_eq_false_iff_ne]; omega
  have hw1 : IntKind.i64.wrap ((b : Int) - (m : Int)) = 1 := by rw [IntKind.wrap_i64]; omega
  have H1 := hide h1
  clear h1 h0 hna
  go_enter Try.func42, Try.ntmps42
  go_wp2_with fail
  go_loopw [14, 15] (fun vi vj wr => ∃ i j : Nat, vi = .int .i64 i ∧ vj = .int .i64 j ∧ a ≤ i ∧ i ≤ j ∧ j ≤ m ∧ (∀ p, a ≤ p → p < i → alt (keyS l) D[m]! D[p]! = false) ∧ (∀ p, j ≤ p → p < m → alt (keyS l) D[m]! D[p]! = true) ∧ Rw wr g rest D ∧ Below lo w wr) (fun vi vj _ => (intOf vj).toNat - (intOf vi).toNat)
  case atStart => exact ⟨a, m, rfl, rfl, Nat.le_refl _, by omega, Nat.le_refl _, fun p p1 p2 => by omega, fun p p1 p2 => by omega, HR.out, Below.refl _ _⟩
  case round =>
    obtain ⟨i, j, rfl, rfl, hmi, hij, hjb, hA, hB, hr, hbl⟩ := hrel
    have HA := hide hA
    have HB := hide hB
    have HW := hide hr
    have HL := hide hbl
    by_cases hlt : i < j
    · have hltz : (i : Int) < (j : Int) := by omega
      obtain ⟨h, hh⟩ : ∃ h : Nat, h = (i + j) / 2 := ⟨_, rfl⟩
      have hhz : (((i : Nat) : Int) + ((j : Nat) : Int)) / 2 = ((h : Nat) : Int) := by omega
      have hih : i ≤ h := by omega
      have hhj : h < j := by omega
      have hah : a ≤ h := by omega
      clear hh hA hB
      have f1 := hr.cell (p := m) (by omega)
      have f2 := hr.cell (p := h) (by omega)
      have i1 : (0 : Int) ≤ (m : Int) := by omega
      have i2 : (m : Int) < (D.size : Int) := by omega
      have i3 : (0 : Int) ≤ (h : Int) := by omega
      have i4 : (h : Int) < (D.size : Int) := by omega
      have ha1 := alt_up (key := keyS l) (HT.out.x h m hah (by omega) (Nat.le_refl _) hmb)
      have hC := cmp_int A c l lo gb gl D[m]! D[h]! wr HK.out (HD.out m (by omega)) (HD.out h (by omega)) (HF.out.below hbl)
      obtain ⟨x, hx⟩ : ∃ x, x = D[m]! := ⟨_, rfl⟩
      obtain ⟨y, hy⟩ : ∃ y, y = D[h]! := ⟨_, rfl⟩
      obtain ⟨v, hv⟩ : ∃ v, v = cfk (keyS l) x y := ⟨_, rfl⟩
      rw [← hx] at f1
      rw [← hy] at f2
      rw [← hx, ← hy, ← hv] at hC
      rw [← hx, ← hy, ← hv, hx, hy] at ha1
      have HC := hide hC
      have HA1 := hide ha1
      clear ha1 hC hx hy hv
      clear hr hbl
      go_wp2_with fail
      go_quiet ((go_at_call 29; with_reducible first | exact Calls.quiet_of (HC.out _) | exact qadd_ex (HC.out _)))
      go_wp2
      · rename_i hv0
        have hlv : ¬ v < 0 := by simpa using hv0
        go_roundw
        case rel =>
          have h1 : alt (keyS l) D[m]! D[h]! = false := by rw [HA1.out]; simp; omega
          refine ⟨h + 1, j, by go_num, rfl, by omega, by omega, hjb, fun p p1 p2 => ?_, HB.out, HW.out.drewN _, below_drewN HL.out _⟩
          by_cases e : p = h
          · rw [e]; exact h1
          · exact (alt_swo _).ntrans _ _ _ h1 (HT.out.l p h p1 (by omega) (by omega))
        case measure => simp [intOf]; omega
      · rename_i hv0
        have hlv : v < 0 := by simpa using hv0
        go_roundw
        case rel =>
          have h1 : alt (keyS l) D[m]! D[h]! = true := by rw [HA1.out]; simp; omega
          refine ⟨i, h, rfl, rfl, hmi, by omega, by omega, HA.out, fun p p1 p2 => ?_, HW.out.drewN _, below_drewN HL.out _⟩
          by_cases e : p = h
          · rw [e]; exact h1
          · exact swo_up (alt_swo _) (HT.out.l h p hah (by omega) p2) h1
        case measure => simp [intOf]; omega
    · have eij : i = j := by omega
      have HB2 := hide (show ∀ p, i ≤ p → p < m → alt (keyS l) D[m]! D[p]! = true by rw [eij]; exact HB.out)
      have him : i ≤ m := by omega
      clear hA hB hr hbl eij
      go_wp2_with fail
      go_loopw [17] (fun vk wr => ∃ (k : Nat) (D1 : Array Int), vk = .int .i64 k ∧ i ≤ k ∧ k ≤ m ∧ (∀ p, D1[p]! = if k < p ∧ p ≤ m then D[p - 1]! else if p = k then D[m]! else D[p]!) ∧ PermIn a b D D1 ∧ Rw wr g rest D1 ∧ Below lo w wr) (fun vk _ => (intOf vk).toNat)
      case atStart =>
        refine ⟨m, D, rfl, him, Nat.le_refl _, fun p => ?_, permIn_refl _ _ _, HW.out, HL.out⟩
        rw [if_neg (by omega)]
        split
        · subst_vars; rfl
        · rfl
      case round =>
        obtain ⟨k, D1, rfl, hak, hki, hg, hp1, hr, hbl⟩ := hrel
        have hS1 : D1.size = D.size := hp1.1
        have HG := hide hg
        have HP1 := hide hp1
        have HW1 := hide hr
        have HL1 := hide hbl
        by_cases hki2 : i < k
        · have hz : (i : Int) < (k : Int) := by omega
          obtain ⟨k1, hk1⟩ : ∃ k1, k1 = k - 1 := ⟨_, rfl⟩
          have hk1k : k1 < k := by omega
          have hwk : IntKind.i64.wrap ((k : Int) - 1) = (k1 : Int) := by rw [IntKind.wrap_i64]; omega
          have HK1 := hide (show k = k1 + 1 by omega)
          clear hk1
          have hne : k ≠ k1 := by omega
          have f1 := hr.cell (p := k) (by omega)
          have f2 := hr.cell (p := k1) (by omega)
          have z1 := hr.frozen k
          have z2 := hr.frozen (k1)
          have i1 : (0 : Int) ≤ (k : Int) := by omega
          have i2 : (k : Int) < (D.size : Int) := by omega
          have i3 : (0 : Int) ≤ (k1 : Int) := by omega
          have i4 : (k1 : Int) < (D.size : Int) := by omega
          obtain ⟨x, hx⟩ : ∃ x, x = D1[k]! := ⟨_, rfl⟩
          obtain ⟨y, hy⟩ : ∃ y, y = D1[k1]! := ⟨_, rfl⟩
          rw [← hx] at f1
          rw [← hy] at f2
          have HX := hide (And.intro hx hy)
          clear hx hy
          clear hg hp1 hr hbl
          go_wp2_with fail
          go_region
          all_goals
            go_wp2
            go_roundw
            case rel =>
              obtain ⟨hx, hy⟩ := HX.out
              have hk := HK1.out
              have h := HW1.out.swp (i := k) (j := k1) (by omega) (by omega)
              rw [← hx, ← hy] at h
              have g1 := swp_get D1 (i := k) (j := k1) (by omega) (by omega)
              refine ⟨k1, swp D1 k k1, rfl, by omega, by omega, fun p => ?_, permIn_trans _ _ _ _ _ HP1.out (swp_permIn _ _ _ _ _ (by omega) (by omega) (by omega) (by omega) (by omega)), h, ((HL1.out.setCell hlo _).setCell hlo _).drew⟩
              rw [g1]
              by_cases e1 : p = k1
              · rw [if_pos e1, if_neg (show ¬ (k1 < p ∧ p ≤ m) by omega), if_pos e1, HG.out, if_neg (by omega), if_pos rfl]
              · rw [if_neg e1, if_neg e1]
                by_cases e2 : p = k
                · rw [if_pos e2, if_pos (show k1 < p ∧ p ≤ m by omega), HG.out, if_neg (by omega), if_neg (by omega), show k1 = p - 1 by omega]
                · rw [if_neg e2, HG.out]
                  by_cases e3 : k < p ∧ p ≤ m
                  · rw [if_pos e3, if_pos (show k1 < p ∧ p ≤ m by omega)]
                  · rw [if_neg e3, if_neg e2, if_neg (show ¬ (k1 < p ∧ p ≤ m) by omega)]
            case measure => simp [intOf]; omega
        · have hz : ¬ (i : Int) < (k : Int) := by omega
          have ek : k = i := by omega
          clear hg hp1 hr hbl
          go_wp2
          refine bodyPost_ret (results_none rfl _ _ _) rfl ?_
          have hT2 : Two (alt (keyS l)) a m (m + 1) D := by have := HT.out; rw [H1.out] at this; exact this
          refine ⟨rfl, ⟨D1, HW1.out, HP1.out, ?_⟩, HL1.out⟩
          rw [H1.out]
          exact down_sorted hT2 hmi him (alt_swo _) HA.out HB2.out (by rw [← ek]; exact HG.out)
theorem ampD_end : True := trivial
end Go.Proofs.Ythgppfbepfgelaa
