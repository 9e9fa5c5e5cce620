/-
  Contracts: observers that are read.
-/
import Derived.Test.YtdplmbndafmlgaaDoorRoA
namespace Go.Proofs.YtdplmbndafmlgaaDoor
open Go.RowKit Pl
set_option linter.unusedVariables false
set_option linter.unusedSimpArgs false
theorem ret_ro {l a : List UInt8} {n : Int} {y : Bool} (h : ro l = (a, n, y)) : Ending.returned (.tuple #[.agg #[.string ⟨a.toArray⟩, .int .i64 n], .bool y]) = .returned (.tuple #[.agg #[.string ⟨(ro l).1.toArray⟩, .int .i64 (ro l).2.1], .bool (ro l).2.2]) := by rw [h]
theorem spec_l05One_bit (s : ByteArray) (n : Int) (b : Bool) (h : obsB s n = b) (w : World) (gs : s.size ≤ maxLen) (g : Nat) (k0 : w.cell? ⟨g, 0, none⟩ = some (.string s)) (k1 : w.cell? ⟨g, 1, none⟩ = some (.int .i64 n)) : Calls Tryd.prog 59 #[.pointer (some ⟨g, 0, none⟩)] w fun e w' => e = .returned (.bool b) ∧ w = w' := by
  have k := spec_l05One_any s n w gs g 0 k0 k1
  rw [h] at k
  exact k
theorem cutPlus_any (l : List UInt8) (w : World) : Calls Tryd.prog 81 #[.string ⟨l.toArray⟩, .string ⟨#[43]⟩] w fun e w' => (∃ b, e = .returned (.tuple #[.string ⟨(unplus l).toArray⟩, .bool b])) ∧ w = w' := by
  refine (Tryd.strings_CutPrefix ⟨l.toArray⟩ ⟨#[43]⟩ w).mono ?_
  rintro e w' ⟨rfl, rfl⟩
  rw [show Lib.trimPrefix (⟨l.toArray⟩ : ByteArray).data.toList (⟨#[43]⟩ : ByteArray).data.toList = unplus l from trim_unplus l]
  exact ⟨⟨_, rfl⟩, rfl⟩
theorem unplus_le (l : List UInt8) : (unplus l).length ≤ l.length := by
  cases l with
  | nil => exact Nat.le_refl _
  | cons c t =>
    show (if c = 43 then t else c :: t).length ≤ (c :: t).length
    split <;> simp
set_option maxHeartbeats 1000000 in
set_option maxRecDepth 100000 in
theorem spec_ReadObserver_any (l : List UInt8) (hl : l.length ≤ 1048577) (w : World) : Calls Tryd.prog 46 #[.string ⟨l.toArray⟩] w fun e w' => e = .returned (.tuple #[.agg #[.string ⟨(ro l).1.toArray⟩, .int .i64 (ro l).2.1], .bool (ro l).2.2]) ∧ Below w.heap.size w w' := by
  obtain ⟨w0, hw0⟩ : ∃ w0, w0 = w.alloc (.cells #[.string ⟨#[]⟩, .int .i64 0] 28) := ⟨_, rfl⟩
  have E0 := hide (show Below w.heap.size w w0 from hw0 ▸ (Below.refl _ _).alloc (Nat.le_refl _) _)
  have hz0 : w.heap.size < w0.heap.size := by rw [hw0]; simp
  have C0 := hide (show w0.cell? ⟨w.heap.size, 0, none⟩ = some (.string ⟨#[]⟩) from by rw [hw0]; simp [go_sem])
  have C1 := hide (show w0.cell? ⟨w.heap.size, 1, none⟩ = some (.int .i64 0) from by rw [hw0]; simp [go_sem])
  have F0 := hide (show w0.frozen? ⟨w.heap.size, 0, none⟩ = false from by rw [hw0]; simp [go_sem])
  have F1 := hide (show w0.frozen? ⟨w.heap.size, 1, none⟩ = false from by rw [hw0]; simp [go_sem])
  have HW0 := hide hw0
  clear hw0
  have HL := hide hl
  by_cases h2 : (spl 32 l).length = 2
  case neg =>
    have HR := hide (ro_many h2)
    have HN := hide h2
    clear h2
    go_enter Tryd.func46, Tryd.ntmps46
    go_wp2_with fail
    rw [← HW0.out]
    refine (l01Split_not2 l 32 32 (by decide) hl HN.out _).mono ?_
    rintro e w1 ⟨A', m, c', rfl, hm, b⟩
    have T1 := hide b
    clear b
    have x0 := (T1.out.cell (p := ⟨w.heap.size, 0, none⟩) hz0).trans C0.out
    have x1 := (T1.out.cell (p := ⟨w.heap.size, 1, none⟩) hz0).trans C1.out
    have f0 := (T1.out.frozen (p := ⟨w.heap.size, 0, none⟩) hz0).trans F0.out
    have f1 := (T1.out.frozen (p := ⟨w.heap.size, 1, none⟩) hz0).trans F1.out
    have hz : w.heap.size < w1.heap.size := Nat.lt_of_lt_of_le hz0 T1.out.size
    have HB : Below w.heap.size w w1 := E0.out.trans (T1.out.mono E0.out.size)
    go_wp2
    exact bodyPost_ret (v := .tuple #[.agg #[.string ⟨#[]⟩, .int .i64 0], .bool false]) (by simp [results, Tryd.results46, go_sem, x0, x1, hz]) rfl ⟨ret_ro HR.out, (by repeat (first | exact Below.refl _ _ | assumption | refine Below.drew ?_ | refine below_drewN ?_ _ | refine Below.alloc ?_ (by first | omega | (simp; done) | (simp; omega)) _ | refine Below.setCell ?_ (by first | omega | (simp; done) | (simp; omega)) _ | refine Below.trans ?_ (Below.mono (by assumption) (by first | omega | (simp; done) | (simp; omega)))))⟩
  have h0 : (32 : UInt8) ∈ l := by
    by_cases h0 : (32 : UInt8) ∈ l
    · exact h0
    · rw [spl_none h0] at h2
      simp at h2
  obtain ⟨a, r, hl2, ha⟩ := part_at h0
  have hb : (32 : UInt8) ∉ r := by
    intro hb
    obtain ⟨x, y, z, q, e⟩ := spl_many ha hb
    rw [hl2, e] at h2
    simp at h2
  have HS := hide (show spl 32 l = [a, r] from by rw [hl2]; exact spl_two ha hb)
  have hla : a.length ≤ 1048577 := by rw [hl2] at hl; simp at hl; omega
  have HA := hide (show (⟨a.toArray⟩ : ByteArray).size ≤ maxLen from by have h : (⟨a.toArray⟩ : ByteArray).size = a.length := rfl; rw [h]; unfold maxLen; omega)
  have hlb : r.length ≤ 1048577 := by rw [hl2] at hl; simp at hl; omega
  clear h2 h0 hb hl hla
  by_cases h4 : r.length < 2
  · have HR := hide (ro_short hl2 ha h4)
    have h4b : (r.length : Int) < 2 := by omega
    clear hl2 ha
    go_enter Tryd.func46, Tryd.ntmps46
    go_wp2_with fail
    rw [← HW0.out]
    refine (l01Split_two _ _ _ 32 32 (by decide) HL.out HS.out _).mono ?_
    rintro e w1 ⟨g, c', rfl, hg, c0, c1, b⟩
    have T1 := hide b
    clear b
    have x0 := (T1.out.cell (p := ⟨w.heap.size, 0, none⟩) hz0).trans C0.out
    have x1 := (T1.out.cell (p := ⟨w.heap.size, 1, none⟩) hz0).trans C1.out
    have f0 := (T1.out.frozen (p := ⟨w.heap.size, 0, none⟩) hz0).trans F0.out
    have f1 := (T1.out.frozen (p := ⟨w.heap.size, 1, none⟩) hz0).trans F1.out
    have hz : w.heap.size < w1.heap.size := Nat.lt_of_lt_of_le hz0 T1.out.size
    have HB : Below w.heap.size w w1 := E0.out.trans (T1.out.mono E0.out.size)
    go_wp2
    exact bodyPost_ret (v := .tuple #[.agg #[.string ⟨#[]⟩, .int .i64 0], .bool false]) (by simp [results, Tryd.results46, go_sem, x0, x1, hz]) rfl ⟨ret_ro HR.out, (by repeat (first | exact Below.refl _ _ | assumption | refine Below.drew ?_ | refine below_drewN ?_ _ | refine Below.alloc ?_ (by first | omega | (simp; done) | (simp; omega)) _ | refine Below.setCell ?_ (by first | omega | (simp; done) | (simp; omega)) _ | refine Below.trans ?_ (Below.mono (by assumption) (by first | omega | (simp; done) | (simp; omega)))))⟩
  have h4b : ¬ (r.length : Int) < 2 := by omega
  rcases r with _ | ⟨c, t⟩
  · simp at h4
  have hlt : t.length ≤ 1048576 := by rw [List.length_cons] at hlb; omega
  have h1t : 1 ≤ t.length := by rw [List.length_cons] at h4; omega
  have eb0 : (⟨(c :: t).toArray⟩ : ByteArray)[0]'(by simp [ByteArray.size]) = c := rfl
  by_cases hc : c = 43
  · subst hc
    have hext : (⟨(43 :: t).toArray⟩ : ByteArray).extract 1 (t.length + 1) = ⟨t.toArray⟩ := by
      apply ByteArray.ext
      simp
    have HLA := hide (show t.length ≤ 1048577 from by omega)
    obtain ⟨n, y, hn⟩ : ∃ n y, resD t = (n, y) := ⟨_, _, rfl⟩
    have HN := hide hn
    cases y
    case false =>
      have HR := hide (ro_plus_no hl2 ha hn (.inl rfl))
      clear hn hl2 ha
      go_enter Tryd.func46, Tryd.ntmps46
      go_wp2_with fail
      rw [← HW0.out]
      refine (l01Split_two _ _ _ 32 32 (by decide) HL.out HS.out _).mono ?_
      rintro e w1 ⟨g, c', rfl, hg, c0, c1, b⟩
      have T1 := hide b
      clear b
      go_wp2_with fail
      refine (l01Number_bit HN.out HLA.out _).mono ?_
      rintro e w2 ⟨rfl, b⟩
      have hg2 : g < w2.heap.size := Nat.lt_of_lt_of_le hg b.size
      have c2 : w2.cell? ⟨g, 1, none⟩ = _ := (b.cell (p := ⟨g, 1, none⟩) hg).trans c1
      have c20 : w2.cell? ⟨g, 0, none⟩ = _ := (b.cell (p := ⟨g, 0, none⟩) hg).trans c0
      have T2 := hide (T1.out.trans (b.mono T1.out.size))
      clear b c0 c1
      have x0 := (T2.out.cell (p := ⟨w.heap.size, 0, none⟩) hz0).trans C0.out
      have x1 := (T2.out.cell (p := ⟨w.heap.size, 1, none⟩) hz0).trans C1.out
      have f0 := (T2.out.frozen (p := ⟨w.heap.size, 0, none⟩) hz0).trans F0.out
      have f1 := (T2.out.frozen (p := ⟨w.heap.size, 1, none⟩) hz0).trans F1.out
      have hz : w.heap.size < w2.heap.size := Nat.lt_of_lt_of_le hz0 T2.out.size
      have HB : Below w.heap.size w w2 := E0.out.trans (T2.out.mono E0.out.size)
      go_wp2
      exact bodyPost_ret (v := .tuple #[.agg #[.string ⟨#[]⟩, .int .i64 0], .bool false]) (by simp [results, Tryd.results46, go_sem, x0, x1, hz]) rfl ⟨ret_ro HR.out, (by repeat (first | exact Below.refl _ _ | assumption | refine Below.drew ?_ | refine below_drewN ?_ _ | refine Below.alloc ?_ (by first | omega | (simp; done) | (simp; omega)) _ | refine Below.setCell ?_ (by first | omega | (simp; done) | (simp; omega)) _ | refine Below.trans ?_ (Below.mono (by assumption) (by first | omega | (simp; done) | (simp; omega)))))⟩
    by_cases h0 : n < 0
    · have HR := hide (ro_plus_no hl2 ha hn (.inr (.inl h0)))
      clear hn hl2 ha
      go_enter Tryd.func46, Tryd.ntmps46
      go_wp2_with fail
      rw [← HW0.out]
      refine (l01Split_two _ _ _ 32 32 (by decide) HL.out HS.out _).mono ?_
      rintro e w1 ⟨g, c', rfl, hg, c0, c1, b⟩
      have T1 := hide b
      clear b
      go_wp2_with fail
      refine (l01Number_bit HN.out HLA.out _).mono ?_
      rintro e w2 ⟨rfl, b⟩
      have hg2 : g < w2.heap.size := Nat.lt_of_lt_of_le hg b.size
      have c2 : w2.cell? ⟨g, 1, none⟩ = _ := (b.cell (p := ⟨g, 1, none⟩) hg).trans c1
      have c20 : w2.cell? ⟨g, 0, none⟩ = _ := (b.cell (p := ⟨g, 0, none⟩) hg).trans c0
      have T2 := hide (T1.out.trans (b.mono T1.out.size))
      clear b c0 c1
      have x0 := (T2.out.cell (p := ⟨w.heap.size, 0, none⟩) hz0).trans C0.out
      have x1 := (T2.out.cell (p := ⟨w.heap.size, 1, none⟩) hz0).trans C1.out
      have f0 := (T2.out.frozen (p := ⟨w.heap.size, 0, none⟩) hz0).trans F0.out
      have f1 := (T2.out.frozen (p := ⟨w.heap.size, 1, none⟩) hz0).trans F1.out
      have hz : w.heap.size < w2.heap.size := Nat.lt_of_lt_of_le hz0 T2.out.size
      have HB : Below w.heap.size w w2 := E0.out.trans (T2.out.mono E0.out.size)
      go_wp2
      exact bodyPost_ret (v := .tuple #[.agg #[.string ⟨#[]⟩, .int .i64 0], .bool false]) (by simp [results, Tryd.results46, go_sem, x0, x1, hz]) rfl ⟨ret_ro HR.out, (by repeat (first | exact Below.refl _ _ | assumption | refine Below.drew ?_ | refine below_drewN ?_ _ | refine Below.alloc ?_ (by first | omega | (simp; done) | (simp; omega)) _ | refine Below.setCell ?_ (by first | omega | (simp; done) | (simp; omega)) _ | refine Below.trans ?_ (Below.mono (by assumption) (by first | omega | (simp; done) | (simp; omega)))))⟩
    cases ho : obsB ⟨a.toArray⟩ n
    · have HR := hide (ro_plus_no hl2 ha hn (.inr (.inr ho)))
      have HO := hide ho
      clear hn hl2 ha ho
      go_enter Tryd.func46, Tryd.ntmps46
      go_wp2_with fail
      rw [← HW0.out]
      refine (l01Split_two _ _ _ 32 32 (by decide) HL.out HS.out _).mono ?_
      rintro e w1 ⟨g, c', rfl, hg, c0, c1, b⟩
      have T1 := hide b
      clear b
      go_wp2_with fail
      refine (l01Number_bit HN.out HLA.out _).mono ?_
      rintro e w2 ⟨rfl, b⟩
      have hg2 : g < w2.heap.size := Nat.lt_of_lt_of_le hg b.size
      have c2 : w2.cell? ⟨g, 1, none⟩ = _ := (b.cell (p := ⟨g, 1, none⟩) hg).trans c1
      have c20 : w2.cell? ⟨g, 0, none⟩ = _ := (b.cell (p := ⟨g, 0, none⟩) hg).trans c0
      have T2 := hide (T1.out.trans (b.mono T1.out.size))
      clear b c0 c1
      have x0 := (T2.out.cell (p := ⟨w.heap.size, 0, none⟩) hz0).trans C0.out
      have x1 := (T2.out.cell (p := ⟨w.heap.size, 1, none⟩) hz0).trans C1.out
      have f0 := (T2.out.frozen (p := ⟨w.heap.size, 0, none⟩) hz0).trans F0.out
      have f1 := (T2.out.frozen (p := ⟨w.heap.size, 1, none⟩) hz0).trans F1.out
      have hz : w.heap.size < w2.heap.size := Nat.lt_of_lt_of_le hz0 T2.out.size
      have HB : Below w.heap.size w w2 := E0.out.trans (T2.out.mono E0.out.size)
      go_wp2_with (go_at_call 59; refine (spec_l05One_bit _ _ _ HO.out _ HA.out _ (by simp [go_sem]) (by simp [go_sem])).mono ?_; rintro e w' ⟨rfl, rfl⟩)
      exact bodyPost_ret (v := .tuple #[.agg #[.string ⟨#[]⟩, .int .i64 0], .bool false]) (by simp [results, Tryd.results46, go_sem, x0, x1, hz]) rfl ⟨ret_ro HR.out, (by repeat (first | exact Below.refl _ _ | assumption | refine Below.drew ?_ | refine below_drewN ?_ _ | refine Below.alloc ?_ (by first | omega | (simp; done) | (simp; omega)) _ | refine Below.setCell ?_ (by first | omega | (simp; done) | (simp; omega)) _ | refine Below.trans ?_ (Below.mono (by assumption) (by first | omega | (simp; done) | (simp; omega)))))⟩
    · have HR := hide (ro_plus_ok hl2 ha hn h0 ho)
      have HO := hide ho
      clear hn hl2 ha ho
      go_enter Tryd.func46, Tryd.ntmps46
      go_wp2_with fail
      rw [← HW0.out]
      refine (l01Split_two _ _ _ 32 32 (by decide) HL.out HS.out _).mono ?_
      rintro e w1 ⟨g, c', rfl, hg, c0, c1, b⟩
      have T1 := hide b
      clear b
      go_wp2_with fail
      refine (l01Number_bit HN.out HLA.out _).mono ?_
      rintro e w2 ⟨rfl, b⟩
      have hg2 : g < w2.heap.size := Nat.lt_of_lt_of_le hg b.size
      have c2 : w2.cell? ⟨g, 1, none⟩ = _ := (b.cell (p := ⟨g, 1, none⟩) hg).trans c1
      have c20 : w2.cell? ⟨g, 0, none⟩ = _ := (b.cell (p := ⟨g, 0, none⟩) hg).trans c0
      have T2 := hide (T1.out.trans (b.mono T1.out.size))
      clear b c0 c1
      have x0 := (T2.out.cell (p := ⟨w.heap.size, 0, none⟩) hz0).trans C0.out
      have x1 := (T2.out.cell (p := ⟨w.heap.size, 1, none⟩) hz0).trans C1.out
      have f0 := (T2.out.frozen (p := ⟨w.heap.size, 0, none⟩) hz0).trans F0.out
      have f1 := (T2.out.frozen (p := ⟨w.heap.size, 1, none⟩) hz0).trans F1.out
      have hz : w.heap.size < w2.heap.size := Nat.lt_of_lt_of_le hz0 T2.out.size
      have HB : Below w.heap.size w w2 := E0.out.trans (T2.out.mono E0.out.size)
      go_wp2_with (go_at_call 59; refine (spec_l05One_bit _ _ _ HO.out _ HA.out _ (by simp [go_sem]) (by simp [go_sem])).mono ?_; rintro e w' ⟨rfl, rfl⟩)
      exact bodyPost_ret (v := .tuple #[.agg #[.string ⟨a.toArray⟩, .int .i64 n], .bool true]) (by simp [results, Tryd.results46, go_sem, x0, x1, hz]) rfl ⟨ret_ro HR.out, (by repeat (first | exact Below.refl _ _ | assumption | refine Below.drew ?_ | refine below_drewN ?_ _ | refine Below.alloc ?_ (by first | omega | (simp; done) | (simp; omega)) _ | refine Below.setCell ?_ (by first | omega | (simp; done) | (simp; omega)) _ | refine Below.trans ?_ (Below.mono (by assumption) (by first | omega | (simp; done) | (simp; omega)))))⟩
  have hcb : ((c.toNat : Int) == 43) = false := by
    have h2 : ¬ (c.toNat : Int) = 43 := fun e => hc (UInt8.toNat_inj.1 (show c.toNat = 43 from by omega))
    simpa using h2
  by_cases hd : c = 45
  · subst hd
    have HLA := hide (show (45 :: t).length ≤ 1048577 from hlb)
    obtain ⟨n, y, hn⟩ : ∃ n y, resD (45 :: t) = (n, y) := ⟨_, _, rfl⟩
    have HN := hide hn
    cases y
    case false =>
      have HR := hide (ro_minus_no hl2 ha hn (.inl rfl))
      clear hn hl2 ha
      go_enter Tryd.func46, Tryd.ntmps46
      go_wp2_with fail
      rw [← HW0.out]
      refine (l01Split_two _ _ _ 32 32 (by decide) HL.out HS.out _).mono ?_
      rintro e w1 ⟨g, c', rfl, hg, c0, c1, b⟩
      have T1 := hide b
      clear b
      go_wp2_with fail
      refine (l01Number_bit HN.out HLA.out _).mono ?_
      rintro e w2 ⟨rfl, b⟩
      have hg2 : g < w2.heap.size := Nat.lt_of_lt_of_le hg b.size
      have c2 : w2.cell? ⟨g, 1, none⟩ = _ := (b.cell (p := ⟨g, 1, none⟩) hg).trans c1
      have c20 : w2.cell? ⟨g, 0, none⟩ = _ := (b.cell (p := ⟨g, 0, none⟩) hg).trans c0
      have T2 := hide (T1.out.trans (b.mono T1.out.size))
      clear b c0 c1
      have x0 := (T2.out.cell (p := ⟨w.heap.size, 0, none⟩) hz0).trans C0.out
      have x1 := (T2.out.cell (p := ⟨w.heap.size, 1, none⟩) hz0).trans C1.out
      have f0 := (T2.out.frozen (p := ⟨w.heap.size, 0, none⟩) hz0).trans F0.out
      have f1 := (T2.out.frozen (p := ⟨w.heap.size, 1, none⟩) hz0).trans F1.out
      have hz : w.heap.size < w2.heap.size := Nat.lt_of_lt_of_le hz0 T2.out.size
      have HB : Below w.heap.size w w2 := E0.out.trans (T2.out.mono E0.out.size)
      go_wp2
      exact bodyPost_ret (v := .tuple #[.agg #[.string ⟨#[]⟩, .int .i64 0], .bool false]) (by simp [results, Tryd.results46, go_sem, x0, x1, hz]) rfl ⟨ret_ro HR.out, (by repeat (first | exact Below.refl _ _ | assumption | refine Below.drew ?_ | refine below_drewN ?_ _ | refine Below.alloc ?_ (by first | omega | (simp; done) | (simp; omega)) _ | refine Below.setCell ?_ (by first | omega | (simp; done) | (simp; omega)) _ | refine Below.trans ?_ (Below.mono (by assumption) (by first | omega | (simp; done) | (simp; omega)))))⟩
    cases ho : obsB ⟨a.toArray⟩ n
    · have HR := hide (ro_minus_no hl2 ha hn (.inr ho))
      have HO := hide ho
      clear hn hl2 ha ho
      go_enter Tryd.func46, Tryd.ntmps46
      go_wp2_with fail
      rw [← HW0.out]
      refine (l01Split_two _ _ _ 32 32 (by decide) HL.out HS.out _).mono ?_
      rintro e w1 ⟨g, c', rfl, hg, c0, c1, b⟩
      have T1 := hide b
      clear b
      go_wp2_with fail
      refine (l01Number_bit HN.out HLA.out _).mono ?_
      rintro e w2 ⟨rfl, b⟩
      have hg2 : g < w2.heap.size := Nat.lt_of_lt_of_le hg b.size
      have c2 : w2.cell? ⟨g, 1, none⟩ = _ := (b.cell (p := ⟨g, 1, none⟩) hg).trans c1
      have c20 : w2.cell? ⟨g, 0, none⟩ = _ := (b.cell (p := ⟨g, 0, none⟩) hg).trans c0
      have T2 := hide (T1.out.trans (b.mono T1.out.size))
      clear b c0 c1
      have x0 := (T2.out.cell (p := ⟨w.heap.size, 0, none⟩) hz0).trans C0.out
      have x1 := (T2.out.cell (p := ⟨w.heap.size, 1, none⟩) hz0).trans C1.out
      have f0 := (T2.out.frozen (p := ⟨w.heap.size, 0, none⟩) hz0).trans F0.out
      have f1 := (T2.out.frozen (p := ⟨w.heap.size, 1, none⟩) hz0).trans F1.out
      have hz : w.heap.size < w2.heap.size := Nat.lt_of_lt_of_le hz0 T2.out.size
      have HB : Below w.heap.size w w2 := E0.out.trans (T2.out.mono E0.out.size)
      go_wp2_with (go_at_call 59; refine (spec_l05One_bit _ _ _ HO.out _ HA.out _ (by simp [go_sem]) (by simp [go_sem])).mono ?_; rintro e w' ⟨rfl, rfl⟩)
      exact bodyPost_ret (v := .tuple #[.agg #[.string ⟨#[]⟩, .int .i64 0], .bool false]) (by simp [results, Tryd.results46, go_sem, x0, x1, hz]) rfl ⟨ret_ro HR.out, (by repeat (first | exact Below.refl _ _ | assumption | refine Below.drew ?_ | refine below_drewN ?_ _ | refine Below.alloc ?_ (by first | omega | (simp; done) | (simp; omega)) _ | refine Below.setCell ?_ (by first | omega | (simp; done) | (simp; omega)) _ | refine Below.trans ?_ (Below.mono (by assumption) (by first | omega | (simp; done) | (simp; omega)))))⟩
    · have HR := hide (ro_minus_ok hl2 ha hn ho)
      have HO := hide ho
      clear hn hl2 ha ho
      go_enter Tryd.func46, Tryd.ntmps46
      go_wp2_with fail
      rw [← HW0.out]
      refine (l01Split_two _ _ _ 32 32 (by decide) HL.out HS.out _).mono ?_
      rintro e w1 ⟨g, c', rfl, hg, c0, c1, b⟩
      have T1 := hide b
      clear b
      go_wp2_with fail
      refine (l01Number_bit HN.out HLA.out _).mono ?_
      rintro e w2 ⟨rfl, b⟩
      have hg2 : g < w2.heap.size := Nat.lt_of_lt_of_le hg b.size
      have c2 : w2.cell? ⟨g, 1, none⟩ = _ := (b.cell (p := ⟨g, 1, none⟩) hg).trans c1
      have c20 : w2.cell? ⟨g, 0, none⟩ = _ := (b.cell (p := ⟨g, 0, none⟩) hg).trans c0
      have T2 := hide (T1.out.trans (b.mono T1.out.size))
      clear b c0 c1
      have x0 := (T2.out.cell (p := ⟨w.heap.size, 0, none⟩) hz0).trans C0.out
      have x1 := (T2.out.cell (p := ⟨w.heap.size, 1, none⟩) hz0).trans C1.out
      have f0 := (T2.out.frozen (p := ⟨w.heap.size, 0, none⟩) hz0).trans F0.out
      have f1 := (T2.out.frozen (p := ⟨w.heap.size, 1, none⟩) hz0).trans F1.out
      have hz : w.heap.size < w2.heap.size := Nat.lt_of_lt_of_le hz0 T2.out.size
      have HB : Below w.heap.size w w2 := E0.out.trans (T2.out.mono E0.out.size)
      go_wp2_with (go_at_call 59; refine (spec_l05One_bit _ _ _ HO.out _ HA.out _ (by simp [go_sem]) (by simp [go_sem])).mono ?_; rintro e w' ⟨rfl, rfl⟩)
      exact bodyPost_ret (v := .tuple #[.agg #[.string ⟨a.toArray⟩, .int .i64 n], .bool true]) (by simp [results, Tryd.results46, go_sem, x0, x1, hz]) rfl ⟨ret_ro HR.out, (by repeat (first | exact Below.refl _ _ | assumption | refine Below.drew ?_ | refine below_drewN ?_ _ | refine Below.alloc ?_ (by first | omega | (simp; done) | (simp; omega)) _ | refine Below.setCell ?_ (by first | omega | (simp; done) | (simp; omega)) _ | refine Below.trans ?_ (Below.mono (by assumption) (by first | omega | (simp; done) | (simp; omega)))))⟩
  have HR := hide (ro_sign hl2 ha hc hd)
  have hcd : ((c.toNat : Int) != 45) = true := by
    have h2 : ¬ (c.toNat : Int) = 45 := fun e => hd (UInt8.toNat_inj.1 (show c.toNat = 45 from by omega))
    simpa using h2
  clear hl2 ha
  go_enter Tryd.func46, Tryd.ntmps46
  go_wp2_with fail
  rw [← HW0.out]
  refine (l01Split_two _ _ _ 32 32 (by decide) HL.out HS.out _).mono ?_
  rintro e w1 ⟨g, c', rfl, hg, c0, c1, b⟩
  have T1 := hide b
  clear b
  have x0 := (T1.out.cell (p := ⟨w.heap.size, 0, none⟩) hz0).trans C0.out
  have x1 := (T1.out.cell (p := ⟨w.heap.size, 1, none⟩) hz0).trans C1.out
  have f0 := (T1.out.frozen (p := ⟨w.heap.size, 0, none⟩) hz0).trans F0.out
  have f1 := (T1.out.frozen (p := ⟨w.heap.size, 1, none⟩) hz0).trans F1.out
  have hz : w.heap.size < w1.heap.size := Nat.lt_of_lt_of_le hz0 T1.out.size
  have HB : Below w.heap.size w w1 := E0.out.trans (T1.out.mono E0.out.size)
  go_wp2
  exact bodyPost_ret (v := .tuple #[.agg #[.string ⟨#[]⟩, .int .i64 0], .bool false]) (by simp [results, Tryd.results46, go_sem, x0, x1, hz]) rfl ⟨ret_ro HR.out, (by repeat (first | exact Below.refl _ _ | assumption | refine Below.drew ?_ | refine below_drewN ?_ _ | refine Below.alloc ?_ (by first | omega | (simp; done) | (simp; omega)) _ | refine Below.setCell ?_ (by first | omega | (simp; done) | (simp; omega)) _ | refine Below.trans ?_ (Below.mono (by assumption) (by first | omega | (simp; done) | (simp; omega)))))⟩
set_option maxHeartbeats 1000000 in
set_option maxRecDepth 100000 in
theorem impl_ReadObserver_any (l : List UInt8) (hl : l.length ≤ 1048576) (w : World) (TT : Tab w) (S : Sen w) (X : Mx w) : Calls Tryd.prog 47 #[.string ⟨l.toArray⟩] w fun e w' => e = .returned (.tuple #[.agg #[.string ⟨(ro l).1.toArray⟩, .int .i64 (ro l).2.1], .bool (ro l).2.2]) ∧ Below w.heap.size w w' := by
  obtain ⟨w0, hw0⟩ : ∃ w0, w0 = w.alloc (.cells #[.string ⟨#[]⟩, .int .i64 0] 28) := ⟨_, rfl⟩
  have E0 := hide (show Below w.heap.size w w0 from hw0 ▸ (Below.refl _ _).alloc (Nat.le_refl _) _)
  have hz0 : w.heap.size < w0.heap.size := by rw [hw0]; simp
  have C0 := hide (show w0.cell? ⟨w.heap.size, 0, none⟩ = some (.string ⟨#[]⟩) from by rw [hw0]; simp [go_sem])
  have C1 := hide (show w0.cell? ⟨w.heap.size, 1, none⟩ = some (.int .i64 0) from by rw [hw0]; simp [go_sem])
  have F0 := hide (show w0.frozen? ⟨w.heap.size, 0, none⟩ = false from by rw [hw0]; simp [go_sem])
  have F1 := hide (show w0.frozen? ⟨w.heap.size, 1, none⟩ = false from by rw [hw0]; simp [go_sem])
  have HW0 := hide hw0
  clear hw0
  have HT := hide TT
  have HZ := hide S
  have HX := hide X
  clear TT S X
  have HL := hide (show l.length ≤ 1048577 from by omega)
  obtain ⟨a, r, f, hc⟩ : ∃ a r f, Lib.cut l [32] = (a, r, f) := ⟨_, _, _, rfl⟩
  have HC := hide hc
  have hr := ro_cut hc
  have hla := cut_le hc
  have HLA := hide (show (⟨a.toArray⟩ : ByteArray).size ≤ 1048576 from by have h : (⟨a.toArray⟩ : ByteArray).size = a.length := rfl; rw [h]; omega)
  have hlr : r.length ≤ 1048577 := by omega
  clear hla hc hl
  obtain ⟨x, y, hn⟩ : ∃ x y, resD (roD r) = (x, y) := ⟨_, _, rfl⟩
  have hbd := resD_bd hn
  have hwr : IntKind.i64.wrap (-x) = -x := by rw [IntKind.wrap_i64]; omega
  cases hnb : negB r
  · have HNB := hide hnb
    have hD : roD r = unplus r := by rw [roD, hnb]; rfl
    have hsg : sg (negB r) x = x := by rw [hnb]; rfl
    rw [hD] at hn
    have HN := hide hn
    have HLR := hide (Nat.le_trans (unplus_le r) hlr)
    cases y
    case false =>
      have HR := hide (hr.trans (roG_y (by rw [hD]; exact hn)))
      clear hr hn hD hsg hnb
      go_enter Tryd.func47, Tryd.ntmps47
      go_wp2_with fail
      rw [← HW0.out]
      refine (cutAt 32 HC.out HL.out _ (HX.out.below E0.out)).mono ?_
      rintro e w1 ⟨rfl, b⟩
      have T1 := hide b
      have B1 := hide (E0.out.trans (T1.out.mono E0.out.size))
      clear b
      go_wp2_with fail
      refine (cutPre_any r _).mono ?_
      rintro e w' ⟨rfl, rfl⟩
      rw [HNB.out]
      go_wp2_with fail
      refine (cutPlus_any r _).mono ?_
      rintro e w' ⟨⟨b2, rfl⟩, rfl⟩
      go_wp2_with fail
      refine (impl_ReadDecimal_bit HN.out HLR.out _ (HT.out.below B1.out) (HZ.out.below B1.out)).mono ?_
      rintro e w2 ⟨rfl, b⟩
      have T2 := hide (T1.out.trans (b.mono T1.out.size))
      have B2 := hide (E0.out.trans (T2.out.mono E0.out.size))
      clear b
      have x0 := (T2.out.cell (p := ⟨w.heap.size, 0, none⟩) hz0).trans C0.out
      have x1 := (T2.out.cell (p := ⟨w.heap.size, 1, none⟩) hz0).trans C1.out
      have f0 := (T2.out.frozen (p := ⟨w.heap.size, 0, none⟩) hz0).trans F0.out
      have f1 := (T2.out.frozen (p := ⟨w.heap.size, 1, none⟩) hz0).trans F1.out
      have hz : w.heap.size < w2.heap.size := Nat.lt_of_lt_of_le hz0 T2.out.size
      have HB : Below w.heap.size w w2 := E0.out.trans (T2.out.mono E0.out.size)
      go_wp2
      exact bodyPost_ret (v := .tuple #[.agg #[.string ⟨#[]⟩, .int .i64 0], .bool false]) (by simp [results, Tryd.results47, go_sem, x0, x1, hz]) rfl ⟨ret_ro HR.out, (by repeat (first | exact Below.refl _ _ | assumption | refine Below.drew ?_ | refine below_drewN ?_ _ | refine Below.alloc ?_ (by first | omega | (simp; done) | (simp; omega)) _ | refine Below.setCell ?_ (by first | omega | (simp; done) | (simp; omega)) _ | refine Below.trans ?_ (Below.mono (by assumption) (by first | omega | (simp; done) | (simp; omega)))))⟩
    by_cases hq : obsText ⟨a.toArray⟩ x = ⟨l.toArray⟩
    · have HR := hide (show ro l = (a, x, true) from by
        rw [hr, roG_ok (x := x) (by rw [hD]; exact hn) (by rw [hsg]; exact hq), hsg])
      clear hr hn hD hsg hnb
      go_enter Tryd.func47, Tryd.ntmps47
      go_wp2_with fail
      rw [← HW0.out]
      refine (cutAt 32 HC.out HL.out _ (HX.out.below E0.out)).mono ?_
      rintro e w1 ⟨rfl, b⟩
      have T1 := hide b
      have B1 := hide (E0.out.trans (T1.out.mono E0.out.size))
      clear b
      go_wp2_with fail
      refine (cutPre_any r _).mono ?_
      rintro e w' ⟨rfl, rfl⟩
      rw [HNB.out]
      go_wp2_with fail
      refine (cutPlus_any r _).mono ?_
      rintro e w' ⟨⟨b2, rfl⟩, rfl⟩
      go_wp2_with fail
      refine (impl_ReadDecimal_bit HN.out HLR.out _ (HT.out.below B1.out) (HZ.out.below B1.out)).mono ?_
      rintro e w2 ⟨rfl, b⟩
      have T2 := hide (T1.out.trans (b.mono T1.out.size))
      have B2 := hide (E0.out.trans (T2.out.mono E0.out.size))
      clear b
      go_wp2_with fail
      have A3 := hide ((Below.refl w2.heap.size w2).alloc (Nat.le_refl _) (.cells #[.string ⟨a.toArray⟩, .int .i64 x] 28))
      refine (impl_ObserverText_any ⟨a.toArray⟩ x HLA.out _ (HT.out.below (B2.out.trans (A3.out.mono B2.out.size)))).mono ?_
      rintro e w3 ⟨rfl, b⟩
      have hx : w2.heap.size < (w2.alloc (.cells #[.string ⟨a.toArray⟩, .int .i64 x] 28)).heap.size := by simp
      have y0 : w3.cell? ⟨w2.heap.size, 0, none⟩ = some (.string ⟨a.toArray⟩) := (b.cell (p := ⟨w2.heap.size, 0, none⟩) hx).trans (by simp [go_sem])
      have y1 : w3.cell? ⟨w2.heap.size, 1, none⟩ = some (.int .i64 x) := (b.cell (p := ⟨w2.heap.size, 1, none⟩) hx).trans (by simp [go_sem])
      have T2b := hide (T2.out.trans (A3.out.mono T2.out.size))
      have T3 := hide (T2b.out.trans (b.mono T2b.out.size))
      clear b hx
      have x0 := (T3.out.cell (p := ⟨w.heap.size, 0, none⟩) hz0).trans C0.out
      have x1 := (T3.out.cell (p := ⟨w.heap.size, 1, none⟩) hz0).trans C1.out
      have f0 := (T3.out.frozen (p := ⟨w.heap.size, 0, none⟩) hz0).trans F0.out
      have f1 := (T3.out.frozen (p := ⟨w.heap.size, 1, none⟩) hz0).trans F1.out
      have hz : w.heap.size < w3.heap.size := Nat.lt_of_lt_of_le hz0 T3.out.size
      have HB : Below w.heap.size w w3 := E0.out.trans (T3.out.mono E0.out.size)
      go_wp2
      exact bodyPost_ret (v := .tuple #[.agg #[.string ⟨a.toArray⟩, .int .i64 x], .bool true]) (by simp [results, Tryd.results47, go_sem, x0, x1, hz]) rfl ⟨ret_ro HR.out, (by repeat (first | exact Below.refl _ _ | assumption | refine Below.drew ?_ | refine below_drewN ?_ _ | refine Below.alloc ?_ (by first | omega | (simp; done) | (simp; omega)) _ | refine Below.setCell ?_ (by first | omega | (simp; done) | (simp; omega)) _ | refine Below.trans ?_ (Below.mono (by assumption) (by first | omega | (simp; done) | (simp; omega)))))⟩
    · have HR := hide (hr.trans (roG_no (x := x) (y := true) (by rw [hD]; exact hn) (fun _ => by rw [hsg]; exact hq)))
      have hq2 : ((obsText ⟨a.toArray⟩ x).toList == (⟨l.toArray⟩ : ByteArray).toList) = false := by
        rw [ByteArray.toList_eq, ByteArray.toList_eq]
        exact beq_eq_false_iff_ne.2 (fun e => hq (ByteArray.ext (Array.ext' e)))
      have hq3 : ((obsText ⟨a.toArray⟩ x).toList == l) = false := by
        rw [ByteArray.toList_eq] at hq2
        rw [ByteArray.toList_eq]
        rw [ByteArray.toList_eq] at hq2
        exact hq2
      clear hr hn hD hsg hnb
      go_enter Tryd.func47, Tryd.ntmps47
      go_wp2_with fail
      rw [← HW0.out]
      refine (cutAt 32 HC.out HL.out _ (HX.out.below E0.out)).mono ?_
      rintro e w1 ⟨rfl, b⟩
      have T1 := hide b
      have B1 := hide (E0.out.trans (T1.out.mono E0.out.size))
      clear b
      go_wp2_with fail
      refine (cutPre_any r _).mono ?_
      rintro e w' ⟨rfl, rfl⟩
      rw [HNB.out]
      go_wp2_with fail
      refine (cutPlus_any r _).mono ?_
      rintro e w' ⟨⟨b2, rfl⟩, rfl⟩
      go_wp2_with fail
      refine (impl_ReadDecimal_bit HN.out HLR.out _ (HT.out.below B1.out) (HZ.out.below B1.out)).mono ?_
      rintro e w2 ⟨rfl, b⟩
      have T2 := hide (T1.out.trans (b.mono T1.out.size))
      have B2 := hide (E0.out.trans (T2.out.mono E0.out.size))
      clear b
      go_wp2_with fail
      have A3 := hide ((Below.refl w2.heap.size w2).alloc (Nat.le_refl _) (.cells #[.string ⟨a.toArray⟩, .int .i64 x] 28))
      refine (impl_ObserverText_any ⟨a.toArray⟩ x HLA.out _ (HT.out.below (B2.out.trans (A3.out.mono B2.out.size)))).mono ?_
      rintro e w3 ⟨rfl, b⟩
      have hx : w2.heap.size < (w2.alloc (.cells #[.string ⟨a.toArray⟩, .int .i64 x] 28)).heap.size := by simp
      have y0 : w3.cell? ⟨w2.heap.size, 0, none⟩ = some (.string ⟨a.toArray⟩) := (b.cell (p := ⟨w2.heap.size, 0, none⟩) hx).trans (by simp [go_sem])
      have y1 : w3.cell? ⟨w2.heap.size, 1, none⟩ = some (.int .i64 x) := (b.cell (p := ⟨w2.heap.size, 1, none⟩) hx).trans (by simp [go_sem])
      have T2b := hide (T2.out.trans (A3.out.mono T2.out.size))
      have T3 := hide (T2b.out.trans (b.mono T2b.out.size))
      clear b hx
      have x0 := (T3.out.cell (p := ⟨w.heap.size, 0, none⟩) hz0).trans C0.out
      have x1 := (T3.out.cell (p := ⟨w.heap.size, 1, none⟩) hz0).trans C1.out
      have f0 := (T3.out.frozen (p := ⟨w.heap.size, 0, none⟩) hz0).trans F0.out
      have f1 := (T3.out.frozen (p := ⟨w.heap.size, 1, none⟩) hz0).trans F1.out
      have hz : w.heap.size < w3.heap.size := Nat.lt_of_lt_of_le hz0 T3.out.size
      have HB : Below w.heap.size w w3 := E0.out.trans (T3.out.mono E0.out.size)
      go_wp2
      exact bodyPost_ret (v := .tuple #[.agg #[.string ⟨#[]⟩, .int .i64 0], .bool false]) (by simp [results, Tryd.results47, go_sem, x0, x1, hz]) rfl ⟨ret_ro HR.out, (by repeat (first | exact Below.refl _ _ | assumption | refine Below.drew ?_ | refine below_drewN ?_ _ | refine Below.alloc ?_ (by first | omega | (simp; done) | (simp; omega)) _ | refine Below.setCell ?_ (by first | omega | (simp; done) | (simp; omega)) _ | refine Below.trans ?_ (Below.mono (by assumption) (by first | omega | (simp; done) | (simp; omega)))))⟩
  · have HNB := hide hnb
    have hD : roD r = unsign r := by rw [roD, hnb]; rfl
    have hsg : sg (negB r) x = (-x) := by rw [hnb]; rfl
    rw [hD] at hn
    have HN := hide hn
    have HLR := hide (Nat.le_trans (unsign_le r) hlr)
    cases y
    case false =>
      have HR := hide (hr.trans (roG_y (by rw [hD]; exact hn)))
      clear hr hn hD hsg hnb
      go_enter Tryd.func47, Tryd.ntmps47
      go_wp2_with fail
      rw [← HW0.out]
      refine (cutAt 32 HC.out HL.out _ (HX.out.below E0.out)).mono ?_
      rintro e w1 ⟨rfl, b⟩
      have T1 := hide b
      have B1 := hide (E0.out.trans (T1.out.mono E0.out.size))
      clear b
      go_wp2_with fail
      refine (cutPre_any r _).mono ?_
      rintro e w' ⟨rfl, rfl⟩
      rw [HNB.out]
      go_wp2_with fail
      refine (impl_ReadDecimal_bit HN.out HLR.out _ (HT.out.below B1.out) (HZ.out.below B1.out)).mono ?_
      rintro e w2 ⟨rfl, b⟩
      have T2 := hide (T1.out.trans (b.mono T1.out.size))
      have B2 := hide (E0.out.trans (T2.out.mono E0.out.size))
      clear b
      have x0 := (T2.out.cell (p := ⟨w.heap.size, 0, none⟩) hz0).trans C0.out
      have x1 := (T2.out.cell (p := ⟨w.heap.size, 1, none⟩) hz0).trans C1.out
      have f0 := (T2.out.frozen (p := ⟨w.heap.size, 0, none⟩) hz0).trans F0.out
      have f1 := (T2.out.frozen (p := ⟨w.heap.size, 1, none⟩) hz0).trans F1.out
      have hz : w.heap.size < w2.heap.size := Nat.lt_of_lt_of_le hz0 T2.out.size
      have HB : Below w.heap.size w w2 := E0.out.trans (T2.out.mono E0.out.size)
      go_wp2
      exact bodyPost_ret (v := .tuple #[.agg #[.string ⟨#[]⟩, .int .i64 0], .bool false]) (by simp [results, Tryd.results47, go_sem, x0, x1, hz]) rfl ⟨ret_ro HR.out, (by repeat (first | exact Below.refl _ _ | assumption | refine Below.drew ?_ | refine below_drewN ?_ _ | refine Below.alloc ?_ (by first | omega | (simp; done) | (simp; omega)) _ | refine Below.setCell ?_ (by first | omega | (simp; done) | (simp; omega)) _ | refine Below.trans ?_ (Below.mono (by assumption) (by first | omega | (simp; done) | (simp; omega)))))⟩
    by_cases hq : obsText ⟨a.toArray⟩ (-x) = ⟨l.toArray⟩
    · have HR := hide (show ro l = (a, (-x), true) from by
        rw [hr, roG_ok (x := x) (by rw [hD]; exact hn) (by rw [hsg]; exact hq), hsg])
      clear hr hn hD hsg hnb
      go_enter Tryd.func47, Tryd.ntmps47
      go_wp2_with fail
      rw [← HW0.out]
      refine (cutAt 32 HC.out HL.out _ (HX.out.below E0.out)).mono ?_
      rintro e w1 ⟨rfl, b⟩
      have T1 := hide b
      have B1 := hide (E0.out.trans (T1.out.mono E0.out.size))
      clear b
      go_wp2_with fail
      refine (cutPre_any r _).mono ?_
      rintro e w' ⟨rfl, rfl⟩
      rw [HNB.out]
      go_wp2_with fail
      refine (impl_ReadDecimal_bit HN.out HLR.out _ (HT.out.below B1.out) (HZ.out.below B1.out)).mono ?_
      rintro e w2 ⟨rfl, b⟩
      have T2 := hide (T1.out.trans (b.mono T1.out.size))
      have B2 := hide (E0.out.trans (T2.out.mono E0.out.size))
      clear b
      go_wp2_with fail
      have A3 := hide ((Below.refl w2.heap.size w2).alloc (Nat.le_refl _) (.cells #[.string ⟨a.toArray⟩, .int .i64 (-x)] 28))
      refine (impl_ObserverText_any ⟨a.toArray⟩ (-x) HLA.out _ (HT.out.below (B2.out.trans (A3.out.mono B2.out.size)))).mono ?_
      rintro e w3 ⟨rfl, b⟩
      have hx : w2.heap.size < (w2.alloc (.cells #[.string ⟨a.toArray⟩, .int .i64 (-x)] 28)).heap.size := by simp
      have y0 : w3.cell? ⟨w2.heap.size, 0, none⟩ = some (.string ⟨a.toArray⟩) := (b.cell (p := ⟨w2.heap.size, 0, none⟩) hx).trans (by simp [go_sem])
      have y1 : w3.cell? ⟨w2.heap.size, 1, none⟩ = some (.int .i64 (-x)) := (b.cell (p := ⟨w2.heap.size, 1, none⟩) hx).trans (by simp [go_sem])
      have T2b := hide (T2.out.trans (A3.out.mono T2.out.size))
      have T3 := hide (T2b.out.trans (b.mono T2b.out.size))
      clear b hx
      have x0 := (T3.out.cell (p := ⟨w.heap.size, 0, none⟩) hz0).trans C0.out
      have x1 := (T3.out.cell (p := ⟨w.heap.size, 1, none⟩) hz0).trans C1.out
      have f0 := (T3.out.frozen (p := ⟨w.heap.size, 0, none⟩) hz0).trans F0.out
      have f1 := (T3.out.frozen (p := ⟨w.heap.size, 1, none⟩) hz0).trans F1.out
      have hz : w.heap.size < w3.heap.size := Nat.lt_of_lt_of_le hz0 T3.out.size
      have HB : Below w.heap.size w w3 := E0.out.trans (T3.out.mono E0.out.size)
      go_wp2
      exact bodyPost_ret (v := .tuple #[.agg #[.string ⟨a.toArray⟩, .int .i64 (-x)], .bool true]) (by simp [results, Tryd.results47, go_sem, x0, x1, hz]) rfl ⟨ret_ro HR.out, (by repeat (first | exact Below.refl _ _ | assumption | refine Below.drew ?_ | refine below_drewN ?_ _ | refine Below.alloc ?_ (by first | omega | (simp; done) | (simp; omega)) _ | refine Below.setCell ?_ (by first | omega | (simp; done) | (simp; omega)) _ | refine Below.trans ?_ (Below.mono (by assumption) (by first | omega | (simp; done) | (simp; omega)))))⟩
    · have HR := hide (hr.trans (roG_no (x := x) (y := true) (by rw [hD]; exact hn) (fun _ => by rw [hsg]; exact hq)))
      have hq2 : ((obsText ⟨a.toArray⟩ (-x)).toList == (⟨l.toArray⟩ : ByteArray).toList) = false := by
        rw [ByteArray.toList_eq, ByteArray.toList_eq]
        exact beq_eq_false_iff_ne.2 (fun e => hq (ByteArray.ext (Array.ext' e)))
      have hq3 : ((obsText ⟨a.toArray⟩ (-x)).toList == l) = false := by
        rw [ByteArray.toList_eq] at hq2
        rw [ByteArray.toList_eq]
        rw [ByteArray.toList_eq] at hq2
        exact hq2
      clear hr hn hD hsg hnb
      go_enter Tryd.func47, Tryd.ntmps47
      go_wp2_with fail
      rw [← HW0.out]
      refine (cutAt 32 HC.out HL.out _ (HX.out.below E0.out)).mono ?_
      rintro e w1 ⟨rfl, b⟩
      have T1 := hide b
      have B1 := hide (E0.out.trans (T1.out.mono E0.out.size))
      clear b
      go_wp2_with fail
      refine (cutPre_any r _).mono ?_
      rintro e w' ⟨rfl, rfl⟩
      rw [HNB.out]
      go_wp2_with fail
      refine (impl_ReadDecimal_bit HN.out HLR.out _ (HT.out.below B1.out) (HZ.out.below B1.out)).mono ?_
      rintro e w2 ⟨rfl, b⟩
      have T2 := hide (T1.out.trans (b.mono T1.out.size))
      have B2 := hide (E0.out.trans (T2.out.mono E0.out.size))
      clear b
      go_wp2_with fail
      have A3 := hide ((Below.refl w2.heap.size w2).alloc (Nat.le_refl _) (.cells #[.string ⟨a.toArray⟩, .int .i64 (-x)] 28))
      refine (impl_ObserverText_any ⟨a.toArray⟩ (-x) HLA.out _ (HT.out.below (B2.out.trans (A3.out.mono B2.out.size)))).mono ?_
      rintro e w3 ⟨rfl, b⟩
      have hx : w2.heap.size < (w2.alloc (.cells #[.string ⟨a.toArray⟩, .int .i64 (-x)] 28)).heap.size := by simp
      have y0 : w3.cell? ⟨w2.heap.size, 0, none⟩ = some (.string ⟨a.toArray⟩) := (b.cell (p := ⟨w2.heap.size, 0, none⟩) hx).trans (by simp [go_sem])
      have y1 : w3.cell? ⟨w2.heap.size, 1, none⟩ = some (.int .i64 (-x)) := (b.cell (p := ⟨w2.heap.size, 1, none⟩) hx).trans (by simp [go_sem])
      have T2b := hide (T2.out.trans (A3.out.mono T2.out.size))
      have T3 := hide (T2b.out.trans (b.mono T2b.out.size))
      clear b hx
      have x0 := (T3.out.cell (p := ⟨w.heap.size, 0, none⟩) hz0).trans C0.out
      have x1 := (T3.out.cell (p := ⟨w.heap.size, 1, none⟩) hz0).trans C1.out
      have f0 := (T3.out.frozen (p := ⟨w.heap.size, 0, none⟩) hz0).trans F0.out
      have f1 := (T3.out.frozen (p := ⟨w.heap.size, 1, none⟩) hz0).trans F1.out
      have hz : w.heap.size < w3.heap.size := Nat.lt_of_lt_of_le hz0 T3.out.size
      have HB : Below w.heap.size w w3 := E0.out.trans (T3.out.mono E0.out.size)
      go_wp2
      exact bodyPost_ret (v := .tuple #[.agg #[.string ⟨#[]⟩, .int .i64 0], .bool false]) (by simp [results, Tryd.results47, go_sem, x0, x1, hz]) rfl ⟨ret_ro HR.out, (by repeat (first | exact Below.refl _ _ | assumption | refine Below.drew ?_ | refine below_drewN ?_ _ | refine Below.alloc ?_ (by first | omega | (simp; done) | (simp; omega)) _ | refine Below.setCell ?_ (by first | omega | (simp; done) | (simp; omega)) _ | refine Below.trans ?_ (Below.mono (by assumption) (by first | omega | (simp; done) | (simp; omega)))))⟩
theorem rob_end : True := trivial
end Go.Proofs.YtdplmbndafmlgaaDoor
