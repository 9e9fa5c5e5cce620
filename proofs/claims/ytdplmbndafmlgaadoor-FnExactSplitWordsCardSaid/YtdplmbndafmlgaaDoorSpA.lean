/-
  Texts that are split at a byte: plain words, and the specification's.
-/
import Derived.Test.YtdplmbndafmlgaaDoorFilt
import Derived.Test.YtdplmbndafmlgaaDoorTxtB
import Derived.Lib.IndexMore
namespace Go.Proofs.YtdplmbndafmlgaaDoor
open Go.RowKit Pl
set_option linter.unusedVariables false
set_option linter.unusedSimpArgs false
/-- The pieces between the bytes c, behind the pieces D and what has been read of one. -/
def splA (c : UInt8) : List (List UInt8) → List UInt8 → List UInt8 → List (List UInt8)
  | D, cur, [] => D ++ [cur]
  | D, cur, x :: t => if x = c then splA c (D ++ [cur]) [] t else splA c D (cur ++ [x]) t
def spl (c : UInt8) (l : List UInt8) : List (List UInt8) := splA c [] [] l
/-- From place j on, up to k. -/
def pc (l : List UInt8) (j k : Nat) : List UInt8 := (l.drop j).take (k - j)
def strs (xs : List (List UInt8)) : List Value := xs.map fun x => Value.string ⟨x.toArray⟩
theorem strs_app (a b : List (List UInt8)) : strs (a ++ b) = strs a ++ strs b := by simp [strs]
theorem splA_free {c : UInt8} : ∀ (t : List UInt8) (D : List (List UInt8)) (cur : List UInt8), c ∉ t → splA c D cur t = D ++ [cur ++ t]
  | [], D, cur, _ => by simp [splA]
  | x :: t, D, cur, h => by
    have h1 : ¬ x = c := fun e => h (by simp [e])
    rw [splA, if_neg h1, splA_free t D (cur ++ [x]) (fun m => h (List.mem_cons_of_mem _ m))]
    simp
theorem splA_hit {c : UInt8} : ∀ (a t : List UInt8) (D : List (List UInt8)) (cur : List UInt8), c ∉ a → splA c D cur (a ++ c :: t) = splA c (D ++ [cur ++ a]) [] t
  | [], t, D, cur, _ => by simp [splA]
  | x :: a, t, D, cur, h => by
    have h1 : ¬ x = c := fun e => h (by simp [e])
    rw [List.cons_append, splA, if_neg h1, splA_hit a t D (cur ++ [x]) (fun m => h (List.mem_cons_of_mem _ m))]
    simp
theorem splA_ge {c : UInt8} : ∀ (t : List UInt8) (D : List (List UInt8)) (cur : List UInt8), D.length + 1 ≤ (splA c D cur t).length
  | [], D, cur => by simp [splA]
  | x :: t, D, cur => by
    rw [splA]
    split
    · have := splA_ge (c := c) t (D ++ [cur]) []
      simp at this
      omega
    · exact splA_ge t D _
theorem splA_le {c : UInt8} : ∀ (t : List UInt8) (D : List (List UInt8)) (cur : List UInt8), (splA c D cur t).length ≤ D.length + 1 + t.length
  | [], D, cur => by simp [splA]
  | x :: t, D, cur => by
    rw [splA, List.length_cons]
    split
    · have := splA_le (c := c) t (D ++ [cur]) []
      simp at this
      omega
    · have := splA_le (c := c) t D (cur ++ [x])
      omega
/-- A text with the byte in it parts there. -/
theorem part_at {c : UInt8} {l : List UInt8} (h : c ∈ l) : ∃ a b, l = a ++ c :: b ∧ c ∉ a := by
  induction l with
  | nil => simp at h
  | cons x t ih =>
    by_cases e : x = c
    · exact ⟨[], t, by simp [e], by simp⟩
    · obtain ⟨a, b, h1, h2⟩ := ih (by simpa [Ne.symm e] using h)
      exact ⟨x :: a, b, by rw [h1]; rfl, by simp [h2, Ne.symm e]⟩
theorem spl_none {c : UInt8} {l : List UInt8} (h : c ∉ l) : spl c l = [l] := by rw [spl, splA_free l _ _ h]; rfl
theorem spl_two {c : UInt8} {a b : List UInt8} (ha : c ∉ a) (hb : c ∉ b) : spl c (a ++ c :: b) = [a, b] := by rw [spl, splA_hit a b _ _ ha, splA_free b _ _ hb]; rfl
theorem spl_many {c : UInt8} {a b : List UInt8} (ha : c ∉ a) (hb : c ∈ b) : ∃ x y z r, spl c (a ++ c :: b) = x :: y :: z :: r := by
  obtain ⟨p, q, rfl, hp⟩ := part_at hb
  have e : spl c (a ++ c :: (p ++ c :: q)) = splA c [a, p] [] q := by
    rw [spl, splA_hit a _ _ _ ha, splA_hit p _ _ _ hp]
    rfl
  have hg := splA_ge (c := c) q [a, p] []
  rw [← e] at hg
  match h : spl c (a ++ c :: (p ++ c :: q)), hg with
  | x :: y :: z :: r, _ => exact ⟨x, y, z, r, rfl⟩
/-- The library's words at one byte. -/
theorem idx_none {c : UInt8} : ∀ {l : List UInt8}, c ∉ l → Lib.index l [c] = -1
  | [], _ => rfl
  | x :: t, h => by
    have h1 : (c == x) = false := beq_eq_false_iff_ne.2 fun e : c = x => h (by simp [e])
    have h2 : [c].isPrefixOf (x :: t) = false := by simp [List.isPrefixOf, h1]
    rw [Lib.index, h2, idx_none (fun m => h (List.mem_cons_of_mem _ m))]
    rfl
theorem idx_some {c : UInt8} {b : List UInt8} : ∀ {a : List UInt8}, c ∉ a → Lib.index (a ++ c :: b) [c] = (a.length : Int)
  | [], _ => by
    have h2 : [c].isPrefixOf (c :: b) = true := by simp [List.isPrefixOf]
    rw [List.nil_append, Lib.index, h2]
    rfl
  | x :: t, h => by
    have h1 : (c == x) = false := beq_eq_false_iff_ne.2 fun e : c = x => h (by simp [e])
    have h2 : [c].isPrefixOf (x :: (t ++ c :: b)) = false := by simp [List.isPrefixOf, h1]
    rw [List.cons_append, Lib.index, h2, idx_some (fun m => h (List.mem_cons_of_mem _ m))]
    have h3 : ((t.length : Int) == -1) = false := by
      have : ¬ (t.length : Int) = -1 := by omega
      exact beq_eq_false_iff_ne.2 this
    rw [h3]
    simp
theorem cut_none {c : UInt8} {l : List UInt8} (h : c ∉ l) : Lib.cut l [c] = (l, [], false) := by
  unfold Lib.cut
  rw [idx_none h]
  rfl
theorem cut_some {c : UInt8} {a b : List UInt8} (h : c ∉ a) : Lib.cut (a ++ c :: b) [c] = (a, b, true) := by
  unfold Lib.cut
  rw [idx_some h, if_pos (by omega), Int.toNat_natCast]
  simp [List.drop_append]
theorem pc_snoc {l : List UInt8} {j k : Nat} (hj : j ≤ k) (hk : k < l.length) : pc l j (k + 1) = pc l j k ++ [l[k]] := by
  unfold pc
  rw [show k + 1 - j = (k - j) + 1 by omega, List.take_add_one]
  congr 1
  rw [List.getElem?_drop, show j + (k - j) = k by omega, List.getElem?_eq_getElem hk]
  rfl
theorem pc_self (l : List UInt8) (k : Nat) : pc l k k = [] := by simp [pc]
theorem pc_ext (l : List UInt8) (j k : Nat) : (⟨l.toArray⟩ : ByteArray).extract j k = ⟨(pc l j k).toArray⟩ := by
  apply ByteArray.ext
  simp [pc]
theorem splA_step {c : UInt8} {l : List UInt8} {j k : Nat} {Q : List (List UInt8)} {R : List (List UInt8)} (hj : j ≤ k) (hk : k < l.length) (h : splA c Q (pc l j k) (l.drop k) = R) :
    (l[k] = c → splA c (Q ++ [pc l j k]) (pc l (k + 1) (k + 1)) (l.drop (k + 1)) = R) ∧ (¬ l[k] = c → splA c Q (pc l j (k + 1)) (l.drop (k + 1)) = R) := by
  rw [List.drop_eq_getElem_cons hk, splA] at h
  constructor
  · intro e
    rw [if_pos e] at h
    rw [pc_self]
    exact h
  · intro e
    rw [if_neg e] at h
    rw [pc_snoc hj hk]
    exact h
theorem info_str : (Tryd.prog.info? 9).map (fun i => (i.zero, i.size, i.bytes)) = some (some (.string ⟨#[]⟩), 1, 16) := by kernel_rfl
set_option maxHeartbeats 1000000 in
theorem l01Split_any (l : List UInt8) (c : UInt8) (hl : l.length ≤ 1048577) (w : World) :
    Calls Tryd.prog 71 #[.string ⟨l.toArray⟩, .int .u8 c.toNat] w fun e w' => ∃ A' c', e = .returned (.slice A' (spl c l).length c') ∧ Own w' w.heap.size 9 1 A' (spl c l).length c' (strs (spl c l)) ∧ Below w.heap.size w w' := by
  obtain ⟨i0, hi, hz0, hz1, hz2⟩ := info_parts info_str
  go_enter Tryd.func71, Tryd.ntmps71
  go_wp2_with fail
  go_loopw [5, 6, 7] (fun v fr i wr => ∃ (k j : Nat) (Q : List (List UInt8)), k ≤ l.length ∧ j ≤ k ∧ Q.length ≤ k ∧ i = .int .i64 k ∧ fr = .int .i64 j ∧ Hid (splA c Q (pc l j k) (l.drop k) = spl c l) ∧ Below w.heap.size w wr ∧ ∃ A' c', v = .slice A' Q.length c' ∧ Own wr w.heap.size 9 1 A' Q.length c' (strs Q)) (fun _ _ i _ => l.length - (intOf i).toNat)
  case atStart => exact ⟨0, 0, [], by omega, by omega, by simp, rfl, rfl, by rw [pc_self]; rfl, (Below.refl _ _).alloc (Nat.le_refl _) _, _, _, rfl, Own.empty_ _ _ _ (Nat.le_refl _)⟩
  case round =>
    obtain ⟨k, j, Q, hk, hj, hq, rfl, rfl, hs, hb, A', c', rfl, hown⟩ := hrel
    have Hb := hide hb
    have HW := hide hown
    clear hown hb
    by_cases hlt : k < l.length
    · have eb : (⟨l.toArray⟩ : ByteArray)[k]'hlt = l[k] := rfl
      have ex := pc_ext l j k
      by_cases hc : l[k] = c
      · have HN := hide ((splA_step hj hlt hs.out).1 hc)
        have hbq : ((l[k].toNat : Int) == (c.toNat : Int)) = true := by rw [hc]; simp
        clear hc
        go_wp2_with (at_builtin; refine wpList_append_own _ rfl _ _ 48 rfl w.heap.size 9 i0 (.string ⟨#[]⟩) 1 16 Tryd.underlying48 hi hz0 hz1 hz2 rfl (by decide) _ _ _ rfl (HW.out.alloc _) ⟨wr.heap.size, 0, none⟩ 1 1 [.string ⟨(pc l j k).toArray⟩] rfl rfl ?c1 ?c2 ?c3 ?c4 ?c5 ?_)
        case c1 => exact c1_new rfl
        case c2 => intro u hu; simp at hu; subst hu; rfl
        case c3 => unfold maxLen; omega
        case c4 => omega
        case c5 => have := Hb.out.size; simp; omega
        intro v' w2 hown' hgrow _
        have hlen : Q.length + 1 = (Q ++ [pc l j k]).length := by simp
        obtain ⟨A2, c2, rfl, hown2⟩ := Own.more (zs := strs (Q ++ [pc l j k])) hown' hlen (by rw [strs_app]; rfl)
        have HX := hide (And.intro hown2 hgrow)
        clear hown' hgrow hown2
        go_wp2
        go_roundw
        case rel =>
          obtain ⟨h1, h2⟩ := HX.out
          exact ⟨k + 1, k + 1, Q ++ [pc l j k], by omega, by omega, by simp; omega, by go_num, by go_num, HN.out, (Hb.out.alloc Hb.out.size _).grown h2 (by have := Hb.out.size; simp; omega) (fun j hj => (HW.out.lt hj).1), A2, c2, rfl, h1⟩
        case measure => simp [intOf]; omega
      · have HN := hide ((splA_step hj hlt hs.out).2 hc)
        have hbq : ((l[k].toNat : Int) == (c.toNat : Int)) = false := by
          have h2 : ¬ (l[k].toNat : Int) = (c.toNat : Int) := fun e => hc (UInt8.toNat_inj.1 (by omega))
          simpa using h2
        clear hc
        go_wp2
        go_roundw
        case rel => exact ⟨k + 1, j, Q, by omega, by omega, by omega, by go_num, rfl, HN.out, Hb.out, A', c', rfl, HW.out⟩
        case measure => simp [intOf]; omega
    · obtain rfl : k = l.length := by omega
      have ex := pc_ext l j l.length
      have HN := hide (show Q ++ [pc l j l.length] = spl c l from by have h := hs.out; rw [List.drop_length, splA] at h; exact h)
      go_wp2_with (at_builtin; refine wpList_append_own _ rfl _ _ 48 rfl w.heap.size 9 i0 (.string ⟨#[]⟩) 1 16 Tryd.underlying48 hi hz0 hz1 hz2 rfl (by decide) _ _ _ rfl (HW.out.alloc _) ⟨wr.heap.size, 0, none⟩ 1 1 [.string ⟨(pc l j l.length).toArray⟩] rfl rfl ?c1 ?c2 ?c3 ?c4 ?c5 ?_)
      case c1 => exact c1_new rfl
      case c2 => intro u hu; simp at hu; subst hu; rfl
      case c3 => unfold maxLen; omega
      case c4 => omega
      case c5 => have := Hb.out.size; simp; omega
      intro v' w2 hown' hgrow _
      have hlen : Q.length + 1 = (spl c l).length := by rw [← HN.out]; simp
      obtain ⟨A2, c2, rfl, hown2⟩ := Own.more (zs := strs (spl c l)) hown' hlen (by rw [← HN.out, strs_app]; rfl)
      have HX := hide (And.intro hown2 hgrow)
      clear hown' hgrow hown2
      go_wp2
      go_ret
      obtain ⟨h1, h2⟩ := HX.out
      exact ⟨A2, c2, rfl, h1, (Hb.out.alloc Hb.out.size _).grown h2 (by have := Hb.out.size; simp; omega) (fun j hj => (HW.out.lt hj).1)⟩
theorem spa_end : True := trivial
end Go.Proofs.YtdplmbndafmlgaaDoor
