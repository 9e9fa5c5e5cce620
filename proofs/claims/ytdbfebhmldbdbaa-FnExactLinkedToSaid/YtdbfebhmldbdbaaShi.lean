/-
  Contracts: ShiftsFrom and LinkedTo, both sides.
-/
import Derived.Test.YtdbfebhmldbdbaaFromW
import Derived.Test.YtdbfebhmldbdbaaCut
namespace Go.Proofs.Ytdbfebhmldbdbaa
open Go.RowKit Pl
set_option linter.unusedVariables false
set_option linter.unusedSimpArgs false
theorem rounds_len (n : Nat) (l : List ComT) : ∀ (m : Nat) (sh : List Int) (kn : List Bool), sh.length = n → kn.length = n → (rounds n l m sh kn).1.length = n ∧ (rounds n l m sh kn).2.length = n
  | 0, sh, kn, h1, h2 => ⟨h1, h2⟩
  | m + 1, sh, kn, h1, h2 => by
    rw [rounds]
    split
    · exact rounds_len n l m _ _ (by simp [shR]) (by simp [knR])
    · exact ⟨by simp [shR], by simp [knR]⟩
theorem FIN_len (n : Nat) (l : List ComT) (f : Nat) : (FIN n l f).1.length = n ∧ (FIN n l f).2.length = n := rounds_len _ _ _ _ _ (by simp) (by simp)
def shOf (n : Int) (l : List ComT) (f : Int) : List Int × Int := if comsB n l = true then (if inB f 0 (n - 1) = true then ((FIN n.toNat l f.toNat).1, 0) else ([], 2)) else ([], 1)
def lkQ (n : Int) (l : List ComT) (f : Int) (i : Nat) : Bool := kat (FIN n.toNat l f.toNat).2 i
def lkOf (n : Int) (l : List ComT) (f : Int) : List Int × Int := if comsB n l = true then (if inB f 0 (n - 1) = true then (whI (lkQ n l f) n.toNat, 0) else ([], 2)) else ([], 1)
theorem shOf_le (n : Int) (l : List ComT) (f : Int) : (shOf n l f).1.length ≤ 1048576 := by
  unfold shOf
  split
  · rename_i h
    obtain ⟨n1, n2, _⟩ := coms_true h
    split
    · rw [(FIN_len _ _ _).1]; omega
    · simp
  · simp
theorem lkOf_le (n : Int) (l : List ComT) (f : Int) : (lkOf n l f).1.length ≤ 1048576 := by
  unfold lkOf
  split
  · rename_i h
    obtain ⟨n1, n2, _⟩ := coms_true h
    split
    · exact Nat.le_trans whI_le (by omega)
    · simp
  · simp
theorem inB_nat {n f : Int} (h : inB f 0 (n - 1) = true) : 0 ≤ f ∧ f ≤ n - 1 := by
  simpa [inB] using h
set_option maxHeartbeats 4000000 in
set_option maxRecDepth 100000 in
theorem spec_ShiftsFrom_any (A : Option Addr) (c : Nat) (n : Int) (l : List ComT) (f : Int) (w : World) (hn : l.length ≤ 1048576) (hr : Rd w w.heap.size 3 A l.length (l.flatMap ComT.cells)) :
    Calls Try.prog 16 #[.int .i64 n, .slice A l.length c, .int .i64 f] w fun e w' => ∃ A' c', e = .returned (.tuple #[.slice A' (shOf n l f).1.length c', .int .i64 (shOf n l f).2]) ∧ Own w' w.heap.size 2 1 A' (shOf n l f).1.length c' (ints (shOf n l f).1) ∧ Below w.heap.size w w' := by
  have HR := hide hr
  clear hr
  cases h1 : comsB n l
  · rw [show shOf n l f = ([], 1) from by simp [shOf, h1]]
    have hC := l05Code_any A c n l f w hn HR.out
    rw [show fromCode n l f = 1 by simp [fromCode, h1]] at hC
    have HC := hide hC
    clear hC
    go_enter Try.func16, Try.ntmps16
    go_wp2_with fail
    refine HC.out.mono ?_
    rintro e w1 ⟨rfl, b⟩
    go_wp2
    go_ret2
    exact ⟨none, 0, rfl, Own.none_, b⟩
  cases h2 : inB f 0 (n - 1)
  · rw [show shOf n l f = ([], 2) from by simp [shOf, h1, h2]]
    have hC := l05Code_any A c n l f w hn HR.out
    rw [show fromCode n l f = 2 by simp [fromCode, h1, h2]] at hC
    have HC := hide hC
    clear hC
    go_enter Try.func16, Try.ntmps16
    go_wp2_with fail
    refine HC.out.mono ?_
    rintro e w1 ⟨rfl, b⟩
    go_wp2
    go_ret2
    exact ⟨none, 0, rfl, Own.none_, b⟩
  obtain ⟨n1, n2, _⟩ := coms_true h1
  obtain ⟨f1, f2⟩ := inB_nat h2
  have hC := l05Code_any A c n l f w hn HR.out
  rw [show fromCode n l f = 0 by simp [fromCode, h1, h2]] at hC
  obtain ⟨N, rfl⟩ : ∃ N : Nat, n = (N : Int) := ⟨n.toNat, by omega⟩
  obtain ⟨m, rfl⟩ : ∃ m : Nat, f = (m : Int) := ⟨f.toNat, by omega⟩
  have hm : m < N := by omega
  have H1 := hide h1
  rw [show shOf (N : Int) l (m : Int) = ((FIN N l m).1, 0) from by simp [shOf, h1, h2]]
  have hfl := (FIN_len N l m).1
  rw [hfl]
  have HC := hide hC
  clear hC h1 h2
  go_enter Try.func16, Try.ntmps16
  go_wp2_with fail
  refine HC.out.mono ?_
  rintro e w1 ⟨rfl, b⟩
  have B1 := hide b
  have R1 := hide ((HR.out.below b).more b.size)
  clear b
  go_wp2_with fail
  refine (from_any A c N l m w1 H1.out hm R1.out).mono ?_
  rintro e w2 ⟨A1, c1, A2, c2, rfl, o1, o2, b2⟩
  have HX := hide (And.intro o1 b2)
  clear o1 o2 b2
  go_wp2
  go_ret2
  exact ⟨A1, c1, rfl, HX.out.1.base B1.out.size, B1.out.trans (HX.out.2.mono B1.out.size)⟩
set_option maxHeartbeats 4000000 in
set_option maxRecDepth 100000 in
theorem impl_ShiftsFrom_any (A : Option Addr) (c : Nat) (n : Int) (l : List ComT) (f : Int) (w : World) (hn : l.length ≤ 1048576) (hr : Rd w w.heap.size 3 A l.length (l.flatMap ComT.cells)) :
    Calls Try.prog 17 #[.int .i64 n, .slice A l.length c, .int .i64 f] w fun e w' => ∃ A' c', e = .returned (.tuple #[.slice A' (shOf n l f).1.length c', .int .i64 (shOf n l f).2]) ∧ Own w' w.heap.size 2 1 A' (shOf n l f).1.length c' (ints (shOf n l f).1) ∧ Below w.heap.size w w' := by
  have HR := hide hr
  clear hr
  cases h1 : comsB n l
  · rw [show shOf n l f = ([], 1) from by simp [shOf, h1]]
    go_enter Try.func17, Try.ntmps17
    go_wp2_with fail
    refine (impl_ValidCommons_any A c n l w hn HR.out).mono ?_
    rintro e w1 ⟨rfl, b⟩
    have B1 := hide b
    have R1 := hide ((HR.out.below b).more b.size)
    clear b
    skip
    go_wp2
    go_ret2
    exact ⟨none, 0, rfl, Own.none_, B1.out⟩
  obtain ⟨n1, n2, _⟩ := coms_true h1
  cases h2 : inB f 0 (n - 1)
  · rw [show shOf n l f = ([], 2) from by simp [shOf, h1, h2]]
    go_enter Try.func17, Try.ntmps17
    go_wp2_with fail
    refine (impl_ValidCommons_any A c n l w hn HR.out).mono ?_
    rintro e w1 ⟨rfl, b⟩
    have B1 := hide b
    have R1 := hide ((HR.out.below b).more b.size)
    clear b
    have hwn : IntKind.i64.wrap (n - 1) = n - 1 := by rw [IntKind.wrap_i64]; omega
    go_wp2_with (go_at_call 32; refine (in_any _ _ _ _).mono ?_; rintro e w' ⟨rfl, rfl⟩)
    go_ret2
    exact ⟨none, 0, rfl, Own.none_, B1.out⟩
  obtain ⟨f1, f2⟩ := inB_nat h2
  have H1 := hide h1
  obtain ⟨N, rfl⟩ : ∃ N : Nat, n = (N : Int) := ⟨n.toNat, by omega⟩
  obtain ⟨m, rfl⟩ : ∃ m : Nat, f = (m : Int) := ⟨f.toNat, by omega⟩
  have hm : m < N := by omega
  rw [show shOf (N : Int) l (m : Int) = ((FIN N l m).1, 0) from by simp [shOf, h1, h2]]
  have hfl := (FIN_len N l m).1
  rw [hfl]
  have hwn : IntKind.i64.wrap ((N : Int) - 1) = (N : Int) - 1 := by rw [IntKind.wrap_i64]; omega
  go_enter Try.func17, Try.ntmps17
  go_wp2_with fail
  refine (impl_ValidCommons_any A c _ l w hn HR.out).mono ?_
  rintro e w1 ⟨rfl, b⟩
  have B1 := hide b
  have R1 := hide ((HR.out.below b).more b.size)
  clear b
  go_wp2_with (go_at_call 32; refine (in_any _ _ _ _).mono ?_; rintro e w' ⟨rfl, rfl⟩)
  refine (spread_any A c N l m w1 H1.out hm R1.out).mono ?_
  rintro e w2 ⟨A1, c1, A2, c2, rfl, o1, o2, b2⟩
  have HX := hide (And.intro o1 b2)
  clear o1 o2 b2
  go_wp2
  go_ret2
  exact ⟨A1, c1, rfl, HX.out.1.base B1.out.size, B1.out.trans (HX.out.2.mono B1.out.size)⟩
set_option maxHeartbeats 4000000 in
set_option maxRecDepth 100000 in
theorem spec_LinkedTo_any (A : Option Addr) (c : Nat) (n : Int) (l : List ComT) (f : Int) (w : World) (hn : l.length ≤ 1048576) (hr : Rd w w.heap.size 3 A l.length (l.flatMap ComT.cells)) :
    Calls Try.prog 21 #[.int .i64 n, .slice A l.length c, .int .i64 f] w fun e w' => ∃ A' c', e = .returned (.tuple #[.slice A' (lkOf n l f).1.length c', .int .i64 (lkOf n l f).2]) ∧ Own w' w.heap.size 2 1 A' (lkOf n l f).1.length c' (ints (lkOf n l f).1) ∧ Below w.heap.size w w' := by
  have HR := hide hr
  clear hr
  cases h1 : comsB n l
  · rw [show lkOf n l f = ([], 1) from by simp [lkOf, h1]]
    have hC := l05Code_any A c n l f w hn HR.out
    rw [show fromCode n l f = 1 by simp [fromCode, h1]] at hC
    have HC := hide hC
    clear hC
    go_enter Try.func21, Try.ntmps21
    go_wp2_with fail
    refine HC.out.mono ?_
    rintro e w1 ⟨rfl, b⟩
    go_wp2
    go_ret2
    exact ⟨none, 0, rfl, Own.none_, b⟩
  cases h2 : inB f 0 (n - 1)
  · rw [show lkOf n l f = ([], 2) from by simp [lkOf, h1, h2]]
    have hC := l05Code_any A c n l f w hn HR.out
    rw [show fromCode n l f = 2 by simp [fromCode, h1, h2]] at hC
    have HC := hide hC
    clear hC
    go_enter Try.func21, Try.ntmps21
    go_wp2_with fail
    refine HC.out.mono ?_
    rintro e w1 ⟨rfl, b⟩
    go_wp2
    go_ret2
    exact ⟨none, 0, rfl, Own.none_, b⟩
  obtain ⟨n1, n2, _⟩ := coms_true h1
  obtain ⟨f1, f2⟩ := inB_nat h2
  have hC := l05Code_any A c n l f w hn HR.out
  rw [show fromCode n l f = 0 by simp [fromCode, h1, h2]] at hC
  obtain ⟨N, rfl⟩ : ∃ N : Nat, n = (N : Int) := ⟨n.toNat, by omega⟩
  obtain ⟨m, rfl⟩ : ∃ m : Nat, f = (m : Int) := ⟨f.toNat, by omega⟩
  have hm : m < N := by omega
  have H1 := hide h1
  obtain ⟨i0, hi, hz0, hz1, hz2⟩ := info_parts info_i64
  rw [show lkOf (N : Int) l (m : Int) = (whI (fun i : Nat => kat (FIN N l m).2 i) N, 0) from by simp [lkOf, h1, h2]; rfl]
  obtain ⟨q, hq⟩ : ∃ q : Nat → Bool, q = fun i : Nat => kat (FIN N l m).2 i := ⟨_, rfl⟩
  have HQ := hide hq
  rw [← hq]
  have HC := hide hC
  clear hC h1 h2 hq
  go_enter Try.func21, Try.ntmps21
  go_wp2_with fail
  refine HC.out.mono ?_
  rintro e w1 ⟨rfl, b⟩
  have B1 := hide b
  have R1 := hide ((HR.out.below b).more b.size)
  clear b
  go_wp2_with fail
  refine (from_any A c N l m w1 H1.out hm R1.out).mono ?_
  rintro e w2 ⟨A1, c1, A2, c2, rfl, o1, o2, b2⟩
  have hkl := (FIN_len N l m).2
  have HX2 := hide (show Own w2 w1.heap.size 4 1 A2 N c2 (bls (FIN N l m).2) from o2)
  have B2 := hide (B1.out.trans (b2.mono B1.out.size))
  clear o1 o2 b2
  go_wp2_with fail
  go_loopw [11, 12] (fun v i wr => ∃ k : Nat, k ≤ N ∧ i = .int .i64 k ∧ Below w2.heap.size w2 wr ∧ ∃ A' c', v = .slice A' (whI q k).length c' ∧ Own wr w2.heap.size 2 1 A' (whI q k).length c' (ints (whI q k))) (fun _ i _ => N - (intOf i).toNat)
  case atStart => exact ⟨0, by omega, rfl, (Below.refl _ _).alloc (Nat.le_refl _) _, _, _, rfl, Own.empty_ _ _ _ (Nat.le_refl _)⟩
  case round =>
    obtain ⟨k, hk, rfl, hb, A', c', rfl, hown⟩ := hrel
    have Hb := hide hb
    have HW := hide hown
    clear hown
    by_cases hlt : k < N
    · have j1 : (0 : Int) ≤ (k : Int) := by omega
      have j2 : (k : Int) < (N : Int) := by omega
      obtain ⟨g, off, rfl, hg, hc⟩ := (show Rd w2 w2.heap.size 1 A2 N (bls (FIN N l m).2) from HX2.out.rd).at_ hlt
      have fx : wr.cell? ⟨g, off + k, none⟩ = some (.bool (q k)) := ((hb.cell (p := ⟨g, off + k, none⟩) hg).trans (hc k _ (bls_at' (by omega)))).trans (by rw [HQ.out])
      clear hc hb
      cases h3 : q k
      · have HN := hide (whI_miss h3)
        rw [h3] at fx
        clear h3
        go_wp2
        go_roundw
        case rel => exact ⟨k + 1, by omega, by go_num, Hb.out, A', c', by rw [HN.out], by rw [HN.out]; exact HW.out⟩
        case measure => simp [intOf]; omega
      · have HN := hide (whI_hit h3)
        rw [h3] at fx
        clear h3
        go_wp2_with (at_builtin; refine wpList_append_own _ rfl _ _ 22 rfl w2.heap.size 2 i0 (.int .i64 0) 1 8 Try.underlying22 hi hz0 hz1 hz2 rfl (by decide) _ _ _ rfl (HW.out.alloc _) ⟨wr.heap.size, 0, none⟩ 1 1 [.int .i64 k] rfl rfl ?c1 ?c2 ?c3 ?c4 ?c5 ?_)
        case c1 => exact c1_new rfl
        case c2 => intro u hu; simp at hu; subst hu; rfl
        case c3 => have := whI_le (q := q) (n := k); unfold maxLen; omega
        case c4 => have := whI_le (q := q) (n := k); omega
        case c5 => have := Hb.out.size; simp; omega
        intro v' wy hown' hgrow _
        have hlen : (whI q k).length + 1 = (whI q (k + 1)).length := by rw [HN.out]; simp
        obtain ⟨Az, cz, rfl, hown2⟩ := Own.more (zs := ints (whI q (k + 1))) hown' hlen (by rw [HN.out, ints_app]; rfl)
        have HX := hide (And.intro hown2 hgrow)
        clear hown' hgrow hown2
        go_wp2
        go_roundw
        case rel =>
          obtain ⟨h1, h2⟩ := HX.out
          exact ⟨k + 1, by omega, by go_num, (Hb.out.alloc Hb.out.size _).grown h2 (by have := Hb.out.size; simp; omega) (fun j hj => (HW.out.lt hj).1), Az, cz, rfl, h1⟩
        case measure => simp [intOf]; omega
    · obtain rfl : k = N := by omega
      clear hb
      go_wp2
      go_ret2
      exact ⟨A', c', rfl, HW.out.base B2.out.size, B2.out.trans (Hb.out.mono B2.out.size)⟩
theorem cloLk_any (A : Option Addr) (N c g i : Nat) (kn : List Bool) (w : World) (hN : kn.length = N) (hlt : i < N) (h1 : w.cell? ⟨g, 0, none⟩ = some (.slice A N c)) (hr : Rd w w.heap.size 1 A N (bls kn)) :
    Calls Try.prog 40 #[.int .i64 i, .pointer (some ⟨g, 0, none⟩)] w fun e w' => e = .returned (.bool (kat kn i)) ∧ w = w' := by
  obtain ⟨g2, off, rfl, hg, hc⟩ := hr.at_ hlt
  have fx := hc i _ (bls_at' (by omega))
  have j1 : (0 : Int) ≤ (i : Int) := by omega
  have j2 : (i : Int) < (N : Int) := by omega
  clear hr hc
  go_enter Try.func40, Try.ntmps40
  go_wp2
  go_ret
  exact ⟨rfl, rfl⟩
set_option maxHeartbeats 2000000 in
set_option maxRecDepth 100000 in
theorem indicesLk_any (A : Option Addr) (N c g : Nat) (kn : List Bool) (w : World) (hN : kn.length = N) (hn : N ≤ 1048576) (h1 : w.cell? ⟨g, 0, none⟩ = some (.slice A N c)) (hr : Rd w w.heap.size 1 A N (bls kn)) :
    Calls Try.prog 39 #[.int .i64 N, .func (.func 40) #[] #[.pointer (some ⟨g, 0, none⟩)]] w fun e w' => ∃ A' c', e = .returned (.slice A' (whI (fun i : Nat => kat kn i) N).length c') ∧ Own w' w.heap.size 2 1 A' (whI (fun i : Nat => kat kn i) N).length c' (ints (whI (fun i : Nat => kat kn i) N)) ∧ Below w.heap.size w w' := by
  obtain ⟨i0, hi, hz0, hz1, hz2⟩ := info_parts info_i64
  obtain ⟨q, hq⟩ : ∃ q : Nat → Bool, q = fun i : Nat => kat kn i := ⟨_, rfl⟩
  have HQ0 := hide hq
  rw [← hq]
  clear hq
  have HR := hide hr
  have zh1 := World.block_lt_of_cell? w _ h1
  have Hh1 := hide h1
  clear h1 hr
  go_enter Try.func39, Try.ntmps39
  go_wp2_with fail
  go_loopw [5, 9] (fun v i wr => ∃ k : Nat, k ≤ N ∧ i = .int .i64 k ∧ Below w.heap.size w wr ∧ ∃ A' c', v = .slice A' (whI q k).length c' ∧ Own wr w.heap.size 2 1 A' (whI q k).length c' (ints (whI q k))) (fun _ i _ => N - (intOf i).toNat)
  case atStart => exact ⟨0, by omega, rfl, (Below.refl _ _).alloc (Nat.le_refl _) _, _, _, rfl, Own.empty_ _ _ _ (Nat.le_refl _)⟩
  case round =>
    obtain ⟨k, hk, rfl, hb, A', c', rfl, hown⟩ := hrel
    have Hb := hide hb
    have HW := hide hown
    clear hown
    by_cases hlt : k < N
    · have j1 : (0 : Int) ≤ (k : Int) := by omega
      have j2 : (k : Int) < (N : Int) := by omega
      have R := hide ((HR.out.below hb).more hb.size)
      have Ch1 := hide ((hb.cell (p := ⟨g, 0, none⟩) zh1).trans Hh1.out)
      have hC := cloLk_any A N c g k kn wr hN hlt Ch1.out R.out
      rw [show kat kn k = q k by rw [HQ0.out]] at hC
      have HC := hide hC
      clear hb hC
      cases h3 : q k
      · have HN := hide (whI_miss h3)
        rw [h3] at HC
        clear h3
        go_wp2_with fail
        refine HC.out.mono ?_
        rintro e w1 ⟨rfl, rfl⟩
        go_wp2
        go_roundw
        case rel => exact ⟨k + 1, by omega, by go_num, Hb.out, A', c', by rw [HN.out], by rw [HN.out]; exact HW.out⟩
        case measure => simp [intOf]; omega
      · have HN := hide (whI_hit h3)
        rw [h3] at HC
        clear h3
        go_wp2_with fail
        refine HC.out.mono ?_
        rintro e w1 ⟨rfl, rfl⟩
        go_wp2_with (at_builtin; refine wpList_append_own _ rfl _ _ 22 rfl w.heap.size 2 i0 (.int .i64 0) 1 8 Try.underlying22 hi hz0 hz1 hz2 rfl (by decide) _ _ _ rfl (HW.out.alloc _) ⟨wr.heap.size, 0, none⟩ 1 1 [.int .i64 k] rfl rfl ?c1 ?c2 ?c3 ?c4 ?c5 ?_)
        case c1 => exact c1_new rfl
        case c2 => intro u hu; simp at hu; subst hu; rfl
        case c3 => have := whI_le (q := q) (n := k); unfold maxLen; omega
        case c4 => have := whI_le (q := q) (n := k); omega
        case c5 => have := Hb.out.size; simp; omega
        intro v' wy hown' hgrow _
        have hlen : (whI q k).length + 1 = (whI q (k + 1)).length := by rw [HN.out]; simp
        obtain ⟨Az, cz, rfl, hown2⟩ := Own.more (zs := ints (whI q (k + 1))) hown' hlen (by rw [HN.out, ints_app]; rfl)
        have HX := hide (And.intro hown2 hgrow)
        clear hown' hgrow hown2
        go_wp2
        go_roundw
        case rel =>
          obtain ⟨h1, h2⟩ := HX.out
          exact ⟨k + 1, by omega, by go_num, (Hb.out.alloc Hb.out.size _).grown h2 (by have := Hb.out.size; simp; omega) (fun j hj => (HW.out.lt hj).1), Az, cz, rfl, h1⟩
        case measure => simp [intOf]; omega
    · obtain rfl : k = N := by omega
      clear hb
      go_wp2
      go_ret
      exact ⟨A', c', rfl, HW.out, Hb.out⟩
set_option maxHeartbeats 4000000 in
set_option maxRecDepth 100000 in
theorem impl_LinkedTo_any (A : Option Addr) (c : Nat) (n : Int) (l : List ComT) (f : Int) (w : World) (hn : l.length ≤ 1048576) (hr : Rd w w.heap.size 3 A l.length (l.flatMap ComT.cells)) :
    Calls Try.prog 22 #[.int .i64 n, .slice A l.length c, .int .i64 f] w fun e w' => ∃ A' c', e = .returned (.tuple #[.slice A' (lkOf n l f).1.length c', .int .i64 (lkOf n l f).2]) ∧ Own w' w.heap.size 2 1 A' (lkOf n l f).1.length c' (ints (lkOf n l f).1) ∧ Below w.heap.size w w' := by
  have HR := hide hr
  clear hr
  cases h1 : comsB n l
  · rw [show lkOf n l f = ([], 1) from by simp [lkOf, h1]]
    go_enter Try.func22, Try.ntmps22
    go_wp2_with fail
    refine (impl_ValidCommons_any A c n l w hn HR.out).mono ?_
    rintro e w1 ⟨rfl, b⟩
    have B1 := hide b
    have R1 := hide ((HR.out.below b).more b.size)
    clear b
    skip
    go_wp2
    go_ret2
    exact ⟨none, 0, rfl, Own.none_, B1.out⟩
  obtain ⟨n1, n2, _⟩ := coms_true h1
  cases h2 : inB f 0 (n - 1)
  · rw [show lkOf n l f = ([], 2) from by simp [lkOf, h1, h2]]
    go_enter Try.func22, Try.ntmps22
    go_wp2_with fail
    refine (impl_ValidCommons_any A c n l w hn HR.out).mono ?_
    rintro e w1 ⟨rfl, b⟩
    have B1 := hide b
    have R1 := hide ((HR.out.below b).more b.size)
    clear b
    have hwn : IntKind.i64.wrap (n - 1) = n - 1 := by rw [IntKind.wrap_i64]; omega
    go_wp2_with (go_at_call 32; refine (in_any _ _ _ _).mono ?_; rintro e w' ⟨rfl, rfl⟩)
    go_ret2
    exact ⟨none, 0, rfl, Own.none_, B1.out⟩
  obtain ⟨f1, f2⟩ := inB_nat h2
  have H1 := hide h1
  obtain ⟨N, rfl⟩ : ∃ N : Nat, n = (N : Int) := ⟨n.toNat, by omega⟩
  obtain ⟨m, rfl⟩ : ∃ m : Nat, f = (m : Int) := ⟨f.toNat, by omega⟩
  have hm : m < N := by omega
  rw [show lkOf (N : Int) l (m : Int) = (whI (fun i : Nat => kat (FIN N l m).2 i) N, 0) from by simp [lkOf, h1, h2]; rfl]
  have hfl := (FIN_len N l m).2
  have hwn : IntKind.i64.wrap ((N : Int) - 1) = (N : Int) - 1 := by rw [IntKind.wrap_i64]; omega
  go_enter Try.func22, Try.ntmps22
  go_wp2_with fail
  refine (impl_ValidCommons_any A c _ l w hn HR.out).mono ?_
  rintro e w1 ⟨rfl, b⟩
  have B1 := hide b
  have R1 := hide ((HR.out.below b).more b.size)
  clear b
  go_wp2_with (go_at_call 32; refine (in_any _ _ _ _).mono ?_; rintro e w' ⟨rfl, rfl⟩)
  refine (spread_any A c N l m w1 H1.out hm R1.out).mono ?_
  rintro e w2 ⟨A1, c1, A2, c2, rfl, o1, o2, b2⟩
  have o3 : Own w2 w1.heap.size 4 1 A2 N c2 (bls (FIN N l m).2) := o2
  have hC := indicesLk_any A2 N c2 w2.heap.size (FIN N l m).2 (w2.alloc (.cells #[.slice A2 N c2] 52)) hfl (by omega) ((Bk.new w2 52 #[.slice A2 N c2]).cell 0) (((o3.rd).alloc (Nat.le_refl _) _).more (by simp))
  have B2 := hide (b2.alloc b2.size (.cells #[.slice A2 N c2] 52))
  have HC := hide hC
  have hc0 := (Bk.new w2 52 #[.slice A2 N c2]).cell 0
  clear o1 o2 o3 b2 hC
  go_wp2_with fail
  refine HC.out.mono ?_
  rintro e w3 ⟨A3, c3, rfl, o4, b4⟩
  have HX := hide (And.intro o4 b4)
  clear o4 b4
  go_wp2
  go_ret2
  have hsz : w.heap.size ≤ (w2.alloc (.cells #[.slice A2 N c2] 52)).heap.size := Nat.le_trans B1.out.size B2.out.size
  exact ⟨A3, c3, rfl, HX.out.1.base hsz, B1.out.trans ((B2.out.trans (HX.out.2.mono B2.out.size)).mono B1.out.size)⟩
theorem spec_ShiftsFrom_val {n : Int} {l : List ComT} {f : Int} {res : List Int} {code : Int} (hF : (res, code) = shOf n l f) (A : Option Addr) (c : Nat) (w : World) (hn : l.length ≤ 1048576) (hr : Rd w w.heap.size 3 A l.length (l.flatMap ComT.cells)) :
    Calls Try.prog 16 #[.int .i64 n, .slice A l.length c, .int .i64 f] w fun e w' => ∃ A' c', e = .returned (.tuple #[.slice A' res.length c', .int .i64 code]) ∧ Own w' w.heap.size 2 1 A' res.length c' (ints res) ∧ Below w.heap.size w w' := by
  have h := spec_ShiftsFrom_any A c n l f w hn hr
  rw [← hF] at h
  exact h
theorem impl_ShiftsFrom_val {n : Int} {l : List ComT} {f : Int} {res : List Int} {code : Int} (hF : (res, code) = shOf n l f) (A : Option Addr) (c : Nat) (w : World) (hn : l.length ≤ 1048576) (hr : Rd w w.heap.size 3 A l.length (l.flatMap ComT.cells)) :
    Calls Try.prog 17 #[.int .i64 n, .slice A l.length c, .int .i64 f] w fun e w' => ∃ A' c', e = .returned (.tuple #[.slice A' res.length c', .int .i64 code]) ∧ Own w' w.heap.size 2 1 A' res.length c' (ints res) ∧ Below w.heap.size w w' := by
  have h := impl_ShiftsFrom_any A c n l f w hn hr
  rw [← hF] at h
  exact h
theorem spec_LinkedTo_val {n : Int} {l : List ComT} {f : Int} {res : List Int} {code : Int} (hF : (res, code) = lkOf n l f) (A : Option Addr) (c : Nat) (w : World) (hn : l.length ≤ 1048576) (hr : Rd w w.heap.size 3 A l.length (l.flatMap ComT.cells)) :
    Calls Try.prog 21 #[.int .i64 n, .slice A l.length c, .int .i64 f] w fun e w' => ∃ A' c', e = .returned (.tuple #[.slice A' res.length c', .int .i64 code]) ∧ Own w' w.heap.size 2 1 A' res.length c' (ints res) ∧ Below w.heap.size w w' := by
  have h := spec_LinkedTo_any A c n l f w hn hr
  rw [← hF] at h
  exact h
theorem impl_LinkedTo_val {n : Int} {l : List ComT} {f : Int} {res : List Int} {code : Int} (hF : (res, code) = lkOf n l f) (A : Option Addr) (c : Nat) (w : World) (hn : l.length ≤ 1048576) (hr : Rd w w.heap.size 3 A l.length (l.flatMap ComT.cells)) :
    Calls Try.prog 22 #[.int .i64 n, .slice A l.length c, .int .i64 f] w fun e w' => ∃ A' c', e = .returned (.tuple #[.slice A' res.length c', .int .i64 code]) ∧ Own w' w.heap.size 2 1 A' res.length c' (ints res) ∧ Below w.heap.size w w' := by
  have h := impl_LinkedTo_any A c n l f w hn hr
  rw [← hF] at h
  exact h
theorem shi_end : True := trivial
end Go.Proofs.Ytdbfebhmldbdbaa
