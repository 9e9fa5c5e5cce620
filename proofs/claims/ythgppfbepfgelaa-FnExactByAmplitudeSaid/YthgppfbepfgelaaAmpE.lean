/-
  Contracts: the merge in place, the great case.
-/
import Derived.Test.YthgppfbepfgelaaAmpD
namespace Go.Proofs.Ythgppfbepfgelaa
open Go.RowKit Pl Go.Sort
set_option linter.unusedVariables false
set_option linter.unusedSimpArgs false
theorem rotT_same {D : Array Int} {s m e : Nat} (h1 : s ≤ m) (h2 : m ≤ e) (h : s = m ∨ m = e) (p : Nat) : D[p]! = rotT D s m e p := by
  unfold rotT
  by_cases e1 : p < s
  · rw [if_pos e1]
  · rw [if_neg e1]
    rcases h with rfl | rfl
    · by_cases e2 : p < s + (e - s)
      · rw [if_pos e2]; congr 1; omega
      · rw [if_neg e2, if_neg (by omega)]
    · rw [if_neg (by omega)]
      by_cases e2 : p < m
      · rw [if_pos e2]; congr 1; omega
      · rw [if_neg e2]
set_option maxHeartbeats 8000000 in
set_option maxRecDepth 100000 in
theorem symG_any (A : Option Addr) (c : Nat) (l : List StarT) (g cap lo gb gl a m b : Nat) (rest : List Value) (D : Array Int) (w : World) (hR : Rw w g rest D) (hlo : lo ≤ g) (hF : Finds w lo gb gl A c l) (hK : KOk l) (ham : a < m) (hmb : m < b) (hb : b ≤ D.size) (hsz : D.size ≤ 1000) (hD : InL l.length D) (hT : Two (alt (keyS l)) a m b D) (h0 : m ≠ a + 1) (h1 : b ≠ m + 1) (hrec : ∀ (a' m' b' : Nat) (D' : Array Int) (w' : World), b' - a' < b - a → D'.size = D.size → Rw w' g rest D' → Finds w' lo gb gl A c l → a' < m' → m' < b' → b' ≤ D.size → InL l.length D' → Two (alt (keyS l)) a' m' b' D' → Calls Try.prog 42 #[.slice (some ⟨g, 0, none⟩) D.size cap, .int .i64 a', .int .i64 m', .int .i64 b', .func (.func 29) #[] #[.pointer (some ⟨gb, 0, none⟩)]] w' fun e w'' => e = .returned (.tuple #[]) ∧ (∃ D'', Rw w'' g rest D'' ∧ PermIn a' b' D' D'' ∧ SortedIn (alt (keyS l)) a' b' D'') ∧ Below lo w' w'') :
    Calls Try.prog 42 #[.slice (some ⟨g, 0, none⟩) D.size cap, .int .i64 a, .int .i64 m, .int .i64 b, .func (.func 29) #[] #[.pointer (some ⟨gb, 0, none⟩)]] w fun e w' => e = .returned (.tuple #[]) ∧ (∃ D', Rw w' g rest D' ∧ PermIn a b D D' ∧ SortedIn (alt (keyS l)) a b D') ∧ Below lo w w' := by
  have HR := hide hR
  have HF := hide hF
  have HK := hide hK
  have HD := hide hD
  have HT := hide hT
  clear hR hF hK hD hT
  have HREC := hide hrec
  clear hrec
  obtain ⟨na, hna⟩ : ∃ na, na = m - a := ⟨_, rfl⟩
  have hw0 : IntKind.i64.wrap ((m : Int) - (a : Int)) = (na : Int) := by rw [IntKind.wrap_i64]; omega
  have hd0 : ((na : Int) == 1) = false := by rw [beq_eq_false_iff_ne]; omega
  obtain ⟨nb, hnb⟩ : ∃ nb, nb = b - m := ⟨_, rfl⟩
  have hw1 : IntKind.i64.wrap ((b : Int) - (m : Int)) = (nb : Int) := by rw [IntKind.wrap_i64]; omega
  have hd1 : ((nb : Int) == 1) = false := by rw [beq_eq_false_iff_ne]; omega
  obtain ⟨mid, hmid⟩ : ∃ mid, mid = (a + b) / 2 := ⟨_, rfl⟩
  have hmz : ((a : Int) + (b : Int)) / 2 = (mid : Int) := by omega
  obtain ⟨n, hn⟩ : ∃ n, n = mid + m := ⟨_, rfl⟩
  have hnz : (mid : Int) + (m : Int) = (n : Int) := by omega
  have MN := hide (show a + 2 ≤ m ∧ m + 2 ≤ b ∧ mid = (a + b) / 2 ∧ n = mid + m from ⟨by omega, by omega, hmid, hn⟩)
  clear hna hnb hmid hn h0 h1
  go_enter Try.func42, Try.ntmps42
  go_upto_if 140 with fail
  go_cut [20, 21] (fun vs vr wx => ∃ s r : Nat, vs = .int .i64 s ∧ vr = .int .i64 r ∧ a ≤ s ∧ s ≤ r ∧ r ≤ m ∧ r ≤ mid ∧ n ≤ b + s ∧ (s = a ∨ n = b + s) ∧ (r = mid ∨ r = m) ∧ wx = w)
  case first => as_aux_lemma =>
    by_cases hgm : mid < m
    · have hz : (mid : Int) < (m : Int) := by omega
      obtain ⟨s0, hs0⟩ : ∃ s0, s0 = n - b := ⟨_, rfl⟩
      have hsz : (n : Int) - (b : Int) = (s0 : Int) := by have := MN.out; omega
      have HS0 := hide hs0
      clear hs0
      go_wp2_with fail
      go_meet
      have := MN.out
      have := HS0.out
      exact ⟨s0, mid, rfl, rfl, by omega, by omega, by omega, Nat.le_refl _, by omega, Or.inr (by omega), Or.inl rfl, rfl⟩
    · have hz : ¬ (mid : Int) < (m : Int) := by omega
      go_wp2_with fail
      go_meet
      have := MN.out
      exact ⟨a, m, rfl, rfl, Nat.le_refl _, by omega, Nat.le_refl _, by omega, by omega, Or.inl rfl, Or.inr rfl, rfl⟩
  case rest =>
    obtain ⟨S, R, rfl, rfl, hS1, hSR, hR1, hR2, hS2, hS3, hR3, rfl⟩ := hcut
    obtain ⟨w0, rfl⟩ : ∃ w0, w0 = wc := ⟨_, rfl⟩
    have SR := hide (And.intro hS1 (And.intro hSR (And.intro hR1 (And.intro hR2 (And.intro hS2 (And.intro hS3 hR3))))))
    have HR := hide HR.out
    obtain ⟨p, hp⟩ : ∃ p, p = n - 1 := ⟨_, rfl⟩
    have hpz : (n : Int) - 1 = (p : Int) := by have := MN.out; omega
    have HP := hide hp
    clear hp hS1 hSR hR1 hR2 hS2 hS3 hR3
    go_wp2_with fail
    go_loopw [20, 21] (fun vs vr wr => ∃ s r : Nat, vs = .int .i64 s ∧ vr = .int .i64 r ∧ S ≤ s ∧ s ≤ r ∧ r ≤ R ∧ (∀ c, S ≤ c → c < s → alt (keyS l) D[p - c]! D[c]! = false) ∧ (∀ c, r ≤ c → c < R → alt (keyS l) D[p - c]! D[c]! = true) ∧ Rw wr g rest D ∧ Below lo w0 wr) (fun vs vr _ => (intOf vr).toNat - (intOf vs).toNat)
    case atStart => exact ⟨S, R, rfl, rfl, Nat.le_refl _, SR.out.2.1, Nat.le_refl _, fun p p1 p2 => by omega, fun p p1 p2 => by omega, HR.out, Below.refl _ _⟩
    case round =>
      obtain ⟨s, r, rfl, rfl, hSs, hsr, hrR, hA, hB, hr, hbl⟩ := hrel
      have HA := hide hA
      have HB := hide hB
      have HW := hide hr
      have HL := hide hbl
      by_cases hlt : s < r
      · have hltz : (s : Int) < (r : Int) := by omega
        obtain ⟨h, hh⟩ : ∃ h : Nat, h = (s + r) / 2 := ⟨_, rfl⟩
        have hhz : ((s : Int) + (r : Int)) / 2 = (h : Int) := by omega
        obtain ⟨q, hq⟩ : ∃ q : Nat, q = p - h := ⟨_, rfl⟩
        have hqz : (p : Int) - (h : Int) = (q : Int) := by have := MN.out; have := SR.out; have := HP.out; omega
        have hsh : s ≤ h := by omega
        have hhr : h < r := by omega
        have hq1 : m ≤ q ∧ q < b := by have := MN.out; have := SR.out; have := HP.out; omega
        have hh1 : a ≤ h ∧ h < m := by have := SR.out; omega
        have HQ := hide hq
        have hq2 := hq1.1
        have hq3 := hq1.2
        have hh2 := hh1.1
        have hh3 := hh1.2
        clear hh hA hB hq hq1 hh1
        have f1 := hr.cell (p := q) (by omega)
        have f2 := hr.cell (p := h) (by omega)
        have i1 : (0 : Int) ≤ (q : Int) := by omega
        have i2 : (q : Int) < (D.size : Int) := by omega
        have i3 : (0 : Int) ≤ (h : Int) := by omega
        have i4 : (h : Int) < (D.size : Int) := by omega
        have ha1 := alt_up (key := keyS l) (HT.out.x h q hh2 hh3 hq2 hq3)
        have hC := cmp_int A c l lo gb gl D[q]! D[h]! wr HK.out (HD.out q (by omega)) (HD.out h (by omega)) (HF.out.below hbl)
        obtain ⟨x, hx⟩ : ∃ x, x = D[q]! := ⟨_, rfl⟩
        obtain ⟨y, hy⟩ : ∃ y, y = D[h]! := ⟨_, rfl⟩
        obtain ⟨v, hv⟩ : ∃ v, v = cfk (keyS l) x y := ⟨_, rfl⟩
        rw [← hx] at f1
        rw [← hy] at f2
        rw [← hx, ← hy, ← hv] at hC
        rw [← hx, ← hy, ← hv, hx, hy] at ha1
        have HC := hide hC
        have HA1 := hide ha1
        clear ha1 hC hx hy hv
        clear hr hbl
        go_wp2_with fail
        go_quiet ((go_at_call 29; with_reducible first | exact Calls.quiet_of (HC.out _) | exact qadd_ex (HC.out _)))
        go_wp2
        · rename_i hv0
          have hlv : ¬ v < 0 := by simpa using hv0
          go_roundw
          case rel =>
            have h1 : alt (keyS l) D[q]! D[h]! = false := by rw [HA1.out]; simp; omega
            refine ⟨h + 1, r, by go_num, rfl, by omega, by omega, hrR, fun c c1 c2 => ?_, HB.out, HW.out.drewN _, below_drewN HL.out _⟩
            have := HQ.out
            have := HP.out
            have := MN.out
            have := SR.out
            by_cases e : c = h
            · rw [e, ← HQ.out]; exact h1
            · refine (alt_swo _).ntrans _ _ _ ((alt_swo _).ntrans _ _ _ (HT.out.r q (p - c) hq2 (by omega) (by omega)) h1) (HT.out.l c h (by omega) (by omega) hh3)
          case measure => simp [intOf]; omega
        · rename_i hv0
          have hlv : v < 0 := by simpa using hv0
          go_roundw
          case rel =>
            have h1 : alt (keyS l) D[q]! D[h]! = true := by rw [HA1.out]; simp; omega
            refine ⟨s, h, rfl, rfl, hSs, by omega, by omega, HA.out, fun c c1 c2 => ?_, HW.out.drewN _, below_drewN HL.out _⟩
            have := HQ.out
            have := HP.out
            have := MN.out
            have := SR.out
            by_cases e : c = h
            · rw [e, ← HQ.out]; exact h1
            · exact swo_up (alt_swo _) (HT.out.l h c hh2 (by omega) (by omega)) (swo_low (alt_swo _) (HT.out.r (p - c) q (by omega) (by omega) hq3) h1)
          case measure => simp [intOf]; omega
      · have esr : s = r := by omega
        obtain ⟨e, he⟩ : ∃ e, e = n - s := ⟨_, rfl⟩
        have hez : (n : Int) - (s : Int) = (e : Int) := by have := MN.out; have := SR.out; omega
        have E1 := hide (show a ≤ s ∧ s ≤ m ∧ m ≤ e ∧ e ≤ b ∧ s + (e - m) = mid ∧ a < mid ∧ mid < b by have := MN.out; have := SR.out; omega)
        have E2 := hide (show a < s → e < b → alt (keyS l) D[e]! D[s - 1]! = false from fun x1 x2 => by
          have h1 := MN.out
          have h2 := SR.out
          have h3 := HP.out
          have := hA (s - 1) (by omega) (by omega)
          rw [show p - (s - 1) = e by omega] at this
          exact this)
        have E3 := hide (show s < m → m < e → alt (keyS l) D[e - 1]! D[s]! = true from fun x1 x2 => by
          have h1 := MN.out
          have h2 := SR.out
          have h3 := HP.out
          have := hB s (by omega) (by omega)
          rw [show p - s = e - 1 by omega] at this
          exact this)
        clear hA hB hr hbl esr he
        have hltz : ¬ (s : Int) < (r : Int) := by omega
        go_upto_region 39 with fail
        go_cut [185] (fun vb wx => ∃ bb : Bool, vb = .bool bb ∧ (bb = true → s < m ∧ m < e) ∧ (bb = false → s = m ∨ m = e) ∧ wx = wr)
        case first => as_aux_lemma =>
          have E4 := E1.out
          by_cases hsm : s < m
          · have hsz : (s : Int) < (m : Int) := by omega
            by_cases hme : m < e
            · have hmz2 : (m : Int) < (e : Int) := by omega
              go_wp2_with fail
              go_meet
              exact ⟨true, rfl, fun _ => ⟨hsm, hme⟩, fun h => (by cases h), rfl⟩
            · have hmz2 : ¬ (m : Int) < (e : Int) := by omega
              go_wp2_with fail
              go_meet
              exact ⟨false, rfl, fun h => (by cases h), fun _ => Or.inr (by omega), rfl⟩
          · have hsz : ¬ (s : Int) < (m : Int) := by omega
            go_wp2_with fail
            go_meet
            exact ⟨false, rfl, fun h => (by cases h), fun _ => Or.inl (by omega), rfl⟩
        case rest => as_aux_lemma =>
          obtain ⟨bb, rfl, hbt, hbf, rfl⟩ := hcut
          have HBT := hide hbt
          have HBF := hide hbf
          clear hbt hbf
          go_upto_if 185 with fail
          go_cut [] (fun wx => ∃ D1, Rw wx g rest D1 ∧ PermIn a b D D1 ∧ (∀ p, D1[p]! = rotT D s m e p) ∧ Below lo w0 wx)
          case first => as_aux_lemma =>
            cases bb
            · have t3 := HBF.out rfl
              go_wp2_with fail
              go_meet
              exact ⟨D, HW.out, permIn_refl _ _ _, rotT_same E1.out.2.1 E1.out.2.2.1 t3, HL.out⟩
            · obtain ⟨t1, t2⟩ := HBT.out rfl
              have HC := hide (rotate_any g cap lo s m e rest D (.func (.func 29) #[] #[.pointer (some ⟨gb, 0, none⟩)]) wc HW.out hlo t1 t2 (by have := E1.out; omega) hsz)
              go_wp2_with fail
              refine HC.out.mono ?_
              rintro e2 w2 ⟨rfl, ⟨D1, x1, x2, x3⟩, x4⟩
              have HX := hide (And.intro x1 (And.intro x2 (And.intro x3 x4)))
              clear x1 x2 x3 x4
              go_wp2_with fail
              go_meet
              obtain ⟨x1, x2, x3, x4⟩ := HX.out
              exact ⟨D1, x1, permIn_mono _ _ _ _ _ _ E1.out.1 E1.out.2.2.2.1 hb x2, x3, HL.out.trans x4⟩
          case rest => as_aux_lemma =>
            obtain ⟨D1, hr1, hp1, hg1, hb1⟩ := hcut
            have hz1 : D1.size = D.size := hp1.1
            have HH := hide (HT.out.halves (alt_swo _) E1.out.1 E1.out.2.1 E1.out.2.2.1 E1.out.2.2.2.1 E1.out.2.2.2.2.1 E2.out E3.out hg1)
            have HW1 := hide hr1
            have HP1 := hide hp1
            have HL1 := hide hb1
            have HD1 := hide (HD.out.perm hp1 hb)
            clear hr1 hp1 hg1 hb1 HBT HBF
            obtain ⟨w1, rfl⟩ : ∃ w1, w1 = wc := ⟨_, rfl⟩
            go_upto_region 41 with fail
            go_cut [199] (fun vb wx => ∃ bb : Bool, vb = .bool bb ∧ (bb = true → a < s ∧ s < mid) ∧ (bb = false → a = s ∨ s = mid) ∧ wx = w1)
            case first => as_aux_lemma =>
              have E4 := E1.out
              by_cases hsm : a < s
              · have hsz1 : (a : Int) < (s : Int) := by omega
                by_cases hme : s < mid
                · have hmz2 : (s : Int) < (mid : Int) := by omega
                  go_wp2_with fail
                  go_meet
                  exact ⟨true, rfl, fun _ => ⟨hsm, hme⟩, fun h => (by cases h), rfl⟩
                · have hmz2 : ¬ (s : Int) < (mid : Int) := by omega
                  go_wp2_with fail
                  go_meet
                  exact ⟨false, rfl, fun h => (by cases h), fun _ => Or.inr (by omega), rfl⟩
              · have hsz1 : ¬ (a : Int) < (s : Int) := by omega
                go_wp2_with fail
                go_meet
                exact ⟨false, rfl, fun h => (by cases h), fun _ => Or.inl (by omega), rfl⟩
            case rest => as_aux_lemma =>
              obtain ⟨bb, rfl, hbt, hbf, rfl⟩ := hcut
              have HBT := hide hbt
              have HBF := hide hbf
              clear hbt hbf
              go_upto_if 199 with fail
              go_cut [] (fun wx => ∃ D2, Rw wx g rest D2 ∧ PermIn a mid D1 D2 ∧ SortedIn (alt (keyS l)) a mid D2 ∧ Below lo w0 wx)
              case first => as_aux_lemma =>
                cases bb
                · have t3 := HBF.out rfl
                  go_wp2_with fail
                  go_meet
                  exact ⟨D1, HW1.out, permIn_refl _ _ _, HH.out.1.left t3, HL1.out⟩
                · obtain ⟨t1, t2⟩ := HBT.out rfl
                  have HC := hide (HREC.out a s mid D1 wc (by have := E1.out; omega) hz1 HW1.out (HF.out.below HL1.out) t1 t2 (by have := E1.out; omega) HD1.out HH.out.1)
                  go_wp2_with fail
                  refine HC.out.mono ?_
                  rintro e2 w2 ⟨rfl, ⟨D2, x1, x2, x3⟩, x4⟩
                  have HX := hide (And.intro x1 (And.intro x2 (And.intro x3 x4)))
                  clear x1 x2 x3 x4
                  go_wp2_with fail
                  go_meet
                  obtain ⟨x1, x2, x3, x4⟩ := HX.out
                  exact ⟨D2, x1, x2, x3, HL1.out.trans x4⟩
              case rest => as_aux_lemma =>
                obtain ⟨D2, hr2, hp2, hs2, hb2⟩ := hcut
                have hz2 : D2.size = D.size := hp2.1.trans hz1
                have HW2 := hide hr2
                have HP2 := hide hp2
                have HL2 := hide hb2
                have HS2 := hide hs2
                have HD2 := hide (HD1.out.perm hp2 (by have := E1.out; omega))
                have HT2 := hide (show Two (alt (keyS l)) mid e b D2 from by
                  have hq : ∀ p, mid ≤ p → D2[p]! = D1[p]! := fun p hp => hp2.2.1 p (Or.inr hp)
                  have h2 := HH.out.2.1
                  have hme : mid ≤ e := by have := E1.out; omega
                  exact ⟨fun i j a1 a2 a3 => by rw [hq i a1, hq j (by omega)]; exact h2.l i j a1 a2 a3, fun i j a1 a2 a3 => by rw [hq i (by omega), hq j (by omega)]; exact h2.r i j a1 a2 a3, fun p q a1 a2 a3 a4 => by rw [hq p a1, hq q (by omega)]; exact h2.x p q a1 a2 a3 a4⟩)
                have FIN : ∀ D3, PermIn mid b D2 D3 → SortedIn (alt (keyS l)) mid b D3 → PermIn a b D D3 ∧ SortedIn (alt (keyS l)) a b D3 := fun D3 y1 y2 => by
                  obtain ⟨z1, z2⟩ := sorted_halves (D := D1) (by have := E1.out; omega) (by have := E1.out; omega) (by omega) HH.out.2.2 HP2.out HS2.out y1 y2
                  exact ⟨permIn_trans _ _ _ _ _ HP1.out z1, z2⟩
                have HFIN := hide FIN
                clear hr2 hp2 hs2 hb2 HBT HBF FIN
                obtain ⟨w2, rfl⟩ : ∃ w2, w2 = wc := ⟨_, rfl⟩
                go_upto_region 43 with fail
                go_cut [213] (fun vb wx => ∃ bb : Bool, vb = .bool bb ∧ (bb = true → mid < e ∧ e < b) ∧ (bb = false → mid = e ∨ e = b) ∧ wx = w2)
                case first => as_aux_lemma =>
                  have E4 := E1.out
                  by_cases hsm : mid < e
                  · have hsz1 : (mid : Int) < (e : Int) := by omega
                    by_cases hme : e < b
                    · have hmz2 : (e : Int) < (b : Int) := by omega
                      go_wp2_with fail
                      go_meet
                      exact ⟨true, rfl, fun _ => ⟨hsm, hme⟩, fun h => (by cases h), rfl⟩
                    · have hmz2 : ¬ (e : Int) < (b : Int) := by omega
                      go_wp2_with fail
                      go_meet
                      exact ⟨false, rfl, fun h => (by cases h), fun _ => Or.inr (by omega), rfl⟩
                  · have hsz1 : ¬ (mid : Int) < (e : Int) := by omega
                    go_wp2_with fail
                    go_meet
                    exact ⟨false, rfl, fun h => (by cases h), fun _ => Or.inl (by omega), rfl⟩
                case rest => as_aux_lemma =>
                  obtain ⟨bb, rfl, hbt, hbf, rfl⟩ := hcut
                  have HBT := hide hbt
                  have HBF := hide hbf
                  clear hbt hbf
                  cases bb
                  · have t3 := HBF.out rfl
                    go_wp2_with fail
                    go_end0
                    obtain ⟨y1, y2⟩ := HFIN.out D2 (permIn_refl _ _ _) (HT2.out.left t3)
                    exact ⟨rfl, ⟨D2, HW2.out, y1, y2⟩, HL2.out⟩
                  · obtain ⟨t1, t2⟩ := HBT.out rfl
                    have HC := hide (HREC.out mid e b D2 wc (by have := E1.out; omega) hz2 HW2.out (HF.out.below HL2.out) t1 t2 (by omega) HD2.out HT2.out)
                    go_wp2_with fail
                    refine HC.out.mono ?_
                    rintro e2 w3 ⟨rfl, ⟨D3, x1, x2, x3⟩, x4⟩
                    have HX := hide (And.intro x1 (And.intro x2 (And.intro x3 x4)))
                    clear x1 x2 x3 x4
                    go_wp2_with fail
                    go_end0
                    obtain ⟨x1, x2, x3, x4⟩ := HX.out
                    obtain ⟨y1, y2⟩ := HFIN.out D3 x2 x3
                    exact ⟨rfl, ⟨D3, x1, y1, y2⟩, HL2.out.trans x4⟩
theorem ampE_end : True := trivial
end Go.Proofs.Ythgppfbepfgelaa
