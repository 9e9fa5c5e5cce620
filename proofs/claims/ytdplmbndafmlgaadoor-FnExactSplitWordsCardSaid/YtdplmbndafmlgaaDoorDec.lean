/-
  Contract: the reference's decimal numeral.
-/
import Derived.Test.YtdplmbndafmlgaaDoorChecked
import Derived.Test.YtdplmbndafmlgaaDoorTxA
import Derived.Test.YtdplmbndafmlgaaDoorFilt
import Derived.WalkKit
import Derived.OwnWalk
import Derived.Laws.AppendOwn
import Derived.Laws.IdiomStrings
import Derived.Lib.Slices
import Derived.Outline
namespace Go.Proofs.YtdplmbndafmlgaaDoor
open Go.RowKit
set_option linter.unusedVariables false
set_option linter.unusedSimpArgs false
def bys (l : List UInt8) : List Value := l.map fun b => .int .u8 (b.toNat : Int)
theorem bys_len (l : List UInt8) : (bys l).length = l.length := by simp [bys]
theorem bys_cons (d : UInt8) (l : List UInt8) : bys (d :: l) = .int .u8 (d.toNat : Int) :: bys l := rfl
theorem bys_one (l : List UInt8) : ∀ u ∈ bys l, u.oneCell' = true := by
  intro u hu
  rw [bys, List.mem_map] at hu
  obtain ⟨x, _, rfl⟩ := hu
  rfl
theorem dig_toNat (k : Nat) : ((dig k).toNat : Int) = 48 + (k : Int) % 10 := by
  unfold dig
  rw [UInt8.toNat_ofNat']
  omega
theorem add_zero_at (g : Nat) (j : Nat) : (⟨g, 0, none⟩ : Addr).add j = ⟨g, j, none⟩ := by unfold Addr.add; split <;> simp_all
theorem Own.bytes {w : World} {lo n c g : Nat} {E : TypeId} {l : List UInt8} (h : Own w lo E 1 (some ⟨g, 0, none⟩) n c (bys l)) : ∀ j (hj : j < l.length), w.cell? ((⟨g, 0, none⟩ : Addr).add j) = some (.int .u8 (l[j].toNat : Int)) := by
  intro j hj
  exact World.ownsRow.cells h (g := g) rfl j _ (by simp [bys, hj])
theorem ba_app (a b : List UInt8) : (⟨a.toArray⟩ ++ ⟨b.toArray⟩ : ByteArray) = ⟨(a ++ b).toArray⟩ := by
  apply ByteArray.ext
  simp
theorem own_some {w : World} {lo k n : Nat} {E : TypeId} {v : Value} {xs : List Value} (h : w.ownsRow lo E k v n xs) (hn : 0 < n) : ∃ g c, v = .slice (some ⟨g, 0, none⟩) n c ∧ Own w lo E k (some ⟨g, 0, none⟩) n c xs := by
  obtain ⟨A, c, rfl, ho⟩ := own_cases h
  obtain ⟨_, _, _, ⟨_, h0, _⟩ | ⟨g, cur, rfl, _⟩⟩ := ho.parts
  · omega
  · exact ⟨g, c, rfl, ho⟩
theorem ret_strD {a b : ByteArray} (h : a = b) : Ending.returned (.string a) = .returned (.string b) := by rw [h]
theorem info_byte : (Tryd.prog.info? 5).map (fun i => (i.zero, i.size, i.bytes)) = some (some (.int .u8 0), 1, 1) := by kernel_rfl
set_option maxHeartbeats 2000000 in
set_option maxRecDepth 100000 in
theorem l01Dec_nat (N : Nat) (hN : N ≤ 9223372036854775807) (w : World) :
    Calls Tryd.prog 49 #[.int .i64 ((N : Int))] w fun e w' => e = .returned (.string ⟨(Lib.decDigits N).toArray⟩) ∧ Below w.heap.size w w' := by
  obtain ⟨i0, hi, hz0, hz1, hz2⟩ := info_parts info_byte
  have HL := hide (dg_len20 (u := N) (by omega))
  go_enter Tryd.func49, Tryd.ntmps49
  go_wp2_with fail
  go_loopw [3, 4, 5] (fun v i d wr => ∃ (m : Nat) (l : List UInt8) (g c : Nat), m ≤ N ∧ i = .int .i64 ((m : Int)) ∧ v = .slice (some ⟨g, 0, none⟩) l.length c ∧ Own wr w.heap.size 5 1 (some ⟨g, 0, none⟩) l.length c (bys l) ∧ Hid (dg m ++ l = dg N) ∧ Below w.heap.size w wr) (fun _ i _ _ => (intOf i).natAbs)
  case atStart => exact ⟨N, [], w.heap.size, 0, Nat.le_refl _, rfl, rfl, Own.empty_ _ _ _ (Nat.le_refl _), List.append_nil _, (Below.refl _ _).alloc (Nat.le_refl _) _⟩
  case round =>
    obtain ⟨m, l, g, c, hm, rfl, rfl, hown, hd, hb⟩ := hrel
    have HB := hide hb
    have HV := hide hown
    have HLl := hide (show l.length ≤ 20 from by have h1 := HL.out; rw [← hd.out, List.length_append] at h1; omega)
    clear hown hb
    by_cases hlt : 0 < m
    · have hne : ¬ ((m : Int)) = 0 := by omega
      have HD := hide (dg_pos (u := m) (by omega))
      have HT := hide (dig_toNat m)
      have ho1 := hide (show Own (wr.alloc (.cells #[.int .u8 (48 + (m : Int) % 10)] 5)) w.heap.size 5 1 (some ⟨wr.heap.size, 0, none⟩) 1 1 [.int .u8 (48 + (m : Int) % 10)] from
        Own.mk_ rfl (Nat.le_refl _) (by simp [maxLen]) HB.out.size (Bk.new _ _ _) rfl rfl)
      have ho2 := hide (show ∀ j u, (bys l)[j]? = some u → (wr.alloc (.cells #[.int .u8 (48 + (m : Int) % 10)] 5)).cell? ((⟨g, 0, none⟩ : Addr).add j) = some u from World.ownsRow.cells (HV.out.alloc _) rfl)
      go_wp2_with (at_builtin; refine wpList_append_own _ rfl _ _ 83 rfl w.heap.size 5 i0 (.int .u8 0) 1 1 Tryd.underlying83 hi hz0 hz1 hz2 rfl (by decide) _ _ _ rfl ho1.out ⟨g, 0, none⟩ l.length c (bys l) rfl (by rw [bys_len, Nat.mul_one]) ho2.out (bys_one l) ?c3 ?c4 ?c5 ?_)
      case c3 => have := HLl.out; unfold maxLen; omega
      case c4 => have := HLl.out; omega
      case c5 => have := HB.out.size; simp; omega
      intro v' w2 hown' hgrow _
      obtain ⟨g2, c2, rfl, hown2⟩ := own_some hown' (by omega)
      have HX := hide (And.intro hown2 hgrow)
      clear hown' hgrow hown2
      go_wp2
      go_roundw
      case rel =>
        obtain ⟨h1, h2⟩ := HX.out
        have e1 : 1 + l.length = (dig m :: l).length := by rw [List.length_cons]; omega
        have e2 : Value.int .u8 (48 + (m : Int) % 10) :: bys l = bys (dig m :: l) := by rw [bys_cons, HT.out]
        rw [e2, e1] at h1
        exact ⟨m / 10, dig m :: l, g2, c2, by omega, by go_num, by rw [← e1], h1, by have h3 := hd.out; rw [HD.out, List.append_assoc] at h3; exact h3, (HB.out.alloc HB.out.size _).grown h2 (by have := HB.out.size; simp; omega) (fun j hj => by cases hj; exact HB.out.size)⟩
      case measure => simp [intOf]; omega
    · obtain rfl : m = 0 := by omega
      have hl := hide (show l = dg N from by have h3 := hd.out; rw [dg_zero] at h3; exact h3)
      by_cases hN0 : N = 0
      · subst hN0
        have hl0 : l = [] := by rw [hl.out, dg_zero]
        subst hl0
        go_wp2
        go_ret
        exact ⟨ret_strD (by rw [dec_small (by omega)]; rfl), HB.out⟩
      · have HR := hide (show l = Lib.decDigits N from by rw [hl.out, dec_dg N N (Nat.le_refl _) hN0])
        have hln : ¬ (l.length : Int) = 0 := by
          have h1 := hl.out
          rw [dg_pos hN0] at h1
          have h2 := congrArg List.length h1
          rw [List.length_append, List.length_singleton] at h2
          omega
        have hcv := run_convert_bytes_back (P := Tryd.prog) wr 83 9 5 ⟨g, 0, none⟩ c l Tryd.underlying83 Tryd.underlying5 Tryd.underlying9 HV.out.bytes
        go_wp2
        go_ret
        exact ⟨ret_strD (by rw [HR.out]), HB.out⟩
set_option maxHeartbeats 2000000 in
set_option maxRecDepth 100000 in
theorem l01Dec_neg (N : Nat) (hN : N ≤ 9223372036854775808) (h0 : 0 < N) (w : World) :
    Calls Tryd.prog 49 #[.int .i64 (-(N : Int))] w fun e w' => e = .returned (.string ⟨(45 :: Lib.decDigits N).toArray⟩) ∧ Below w.heap.size w w' := by
  obtain ⟨i0, hi, hz0, hz1, hz2⟩ := info_parts info_byte
  have HL := hide (dg_len20 (u := N) (by omega))
  go_enter Tryd.func49, Tryd.ntmps49
  go_wp2_with fail
  go_loopw [3, 4, 5] (fun v i d wr => ∃ (m : Nat) (l : List UInt8) (g c : Nat), m ≤ N ∧ i = .int .i64 (-(m : Int)) ∧ v = .slice (some ⟨g, 0, none⟩) l.length c ∧ Own wr w.heap.size 5 1 (some ⟨g, 0, none⟩) l.length c (bys l) ∧ Hid (dg m ++ l = dg N) ∧ Below w.heap.size w wr) (fun _ i _ _ => (intOf i).natAbs)
  case atStart => exact ⟨N, [], w.heap.size, 0, Nat.le_refl _, rfl, rfl, Own.empty_ _ _ _ (Nat.le_refl _), List.append_nil _, (Below.refl _ _).alloc (Nat.le_refl _) _⟩
  case round =>
    obtain ⟨m, l, g, c, hm, rfl, rfl, hown, hd, hb⟩ := hrel
    have HB := hide hb
    have HV := hide hown
    have HLl := hide (show l.length ≤ 20 from by have h1 := HL.out; rw [← hd.out, List.length_append] at h1; omega)
    clear hown hb
    by_cases hlt : 0 < m
    · have hne : ¬ (-(m : Int)) = 0 := by omega
      have HD := hide (dg_pos (u := m) (by omega))
      by_cases hz9 : (m : Int) % 10 = 0
      ·
        have HT := hide (show ((dig m).toNat : Int) = 48 from by rw [dig_toNat, hz9]; rfl)
        have ho1 := hide (show Own (wr.alloc (.cells #[.int .u8 48] 5)) w.heap.size 5 1 (some ⟨wr.heap.size, 0, none⟩) 1 1 [.int .u8 48] from
          Own.mk_ rfl (Nat.le_refl _) (by simp [maxLen]) HB.out.size (Bk.new _ _ _) rfl rfl)
        have ho2 := hide (show ∀ j u, (bys l)[j]? = some u → (wr.alloc (.cells #[.int .u8 48] 5)).cell? ((⟨g, 0, none⟩ : Addr).add j) = some u from World.ownsRow.cells (HV.out.alloc _) rfl)
        go_wp2_with (at_builtin; refine wpList_append_own _ rfl _ _ 83 rfl w.heap.size 5 i0 (.int .u8 0) 1 1 Tryd.underlying83 hi hz0 hz1 hz2 rfl (by decide) _ _ _ rfl ho1.out ⟨g, 0, none⟩ l.length c (bys l) rfl (by rw [bys_len, Nat.mul_one]) ho2.out (bys_one l) ?c3 ?c4 ?c5 ?_)
        case c3 => have := HLl.out; unfold maxLen; omega
        case c4 => have := HLl.out; omega
        case c5 => have := HB.out.size; simp; omega
        intro v' w2 hown' hgrow _
        obtain ⟨g2, c2, rfl, hown2⟩ := own_some hown' (by omega)
        have HX := hide (And.intro hown2 hgrow)
        clear hown' hgrow hown2
        go_wp2
        go_roundw
        case rel =>
          obtain ⟨h1, h2⟩ := HX.out
          have e1 : 1 + l.length = (dig m :: l).length := by rw [List.length_cons]; omega
          have e2 : Value.int .u8 48 :: bys l = bys (dig m :: l) := by rw [bys_cons, HT.out]
          rw [e2, e1] at h1
          exact ⟨m / 10, dig m :: l, g2, c2, by omega, by go_num, by rw [← e1], h1, by have h3 := hd.out; rw [HD.out, List.append_assoc] at h3; exact h3, (HB.out.alloc HB.out.size _).grown h2 (by have := HB.out.size; simp; omega) (fun j hj => by cases hj; exact HB.out.size)⟩
        case measure => simp [intOf]; omega
      · have hp9 : 0 < (m : Int) % 10 := by omega
        have HT := hide (dig_toNat m)
        have ho1 := hide (show Own (wr.alloc (.cells #[.int .u8 (48 + (m : Int) % 10)] 5)) w.heap.size 5 1 (some ⟨wr.heap.size, 0, none⟩) 1 1 [.int .u8 (48 + (m : Int) % 10)] from
          Own.mk_ rfl (Nat.le_refl _) (by simp [maxLen]) HB.out.size (Bk.new _ _ _) rfl rfl)
        have ho2 := hide (show ∀ j u, (bys l)[j]? = some u → (wr.alloc (.cells #[.int .u8 (48 + (m : Int) % 10)] 5)).cell? ((⟨g, 0, none⟩ : Addr).add j) = some u from World.ownsRow.cells (HV.out.alloc _) rfl)
        go_wp2_with (at_builtin; refine wpList_append_own _ rfl _ _ 83 rfl w.heap.size 5 i0 (.int .u8 0) 1 1 Tryd.underlying83 hi hz0 hz1 hz2 rfl (by decide) _ _ _ rfl ho1.out ⟨g, 0, none⟩ l.length c (bys l) rfl (by rw [bys_len, Nat.mul_one]) ho2.out (bys_one l) ?c3 ?c4 ?c5 ?_)
        case c3 => have := HLl.out; unfold maxLen; omega
        case c4 => have := HLl.out; omega
        case c5 => have := HB.out.size; simp; omega
        intro v' w2 hown' hgrow _
        obtain ⟨g2, c2, rfl, hown2⟩ := own_some hown' (by omega)
        have HX := hide (And.intro hown2 hgrow)
        clear hown' hgrow hown2
        go_wp2
        go_roundw
        case rel =>
          obtain ⟨h1, h2⟩ := HX.out
          have e1 : 1 + l.length = (dig m :: l).length := by rw [List.length_cons]; omega
          have e2 : Value.int .u8 (48 + (m : Int) % 10) :: bys l = bys (dig m :: l) := by rw [bys_cons, HT.out]
          rw [e2, e1] at h1
          exact ⟨m / 10, dig m :: l, g2, c2, by omega, by go_num, by rw [← e1], h1, by have h3 := hd.out; rw [HD.out, List.append_assoc] at h3; exact h3, (HB.out.alloc HB.out.size _).grown h2 (by have := HB.out.size; simp; omega) (fun j hj => by cases hj; exact HB.out.size)⟩
        case measure => simp [intOf]; omega
    · obtain rfl : m = 0 := by omega
      have hl := hide (show l = dg N from by have h3 := hd.out; rw [dg_zero] at h3; exact h3)
      have HR := hide (show l = Lib.decDigits N from by rw [hl.out, dec_dg N N (Nat.le_refl _) (by omega)])
      have hln : ¬ (l.length : Int) = 0 := by
        have h1 := hl.out
        rw [dg_pos (by omega)] at h1
        have h2 := congrArg List.length h1
        rw [List.length_append, List.length_singleton] at h2
        omega
      have hcv := run_convert_bytes_back (P := Tryd.prog) wr 83 9 5 ⟨g, 0, none⟩ c l Tryd.underlying83 Tryd.underlying5 Tryd.underlying9 HV.out.bytes
      have hN9 : (0 : Int) < (N : Int) := by omega
      have hN8 : -(N : Int) < 0 := by omega
      have hle9 : l.length ≤ 20 := HLl.out
      go_wp2
      go_ret
      exact ⟨ret_strD (by rw [HR.out]; exact ba_app [45] _), HB.out⟩
theorem dec_end : True := trivial
end Go.Proofs.YtdplmbndafmlgaaDoor
