/-
  Plain words: observers that are read.
-/
import Derived.Test.YtdplmbndafmlgaaDoorRmB
import Derived.Test.YtdplmbndafmlgaaDoorTxtE
namespace Go.Proofs.YtdplmbndafmlgaaDoor
open Go.RowKit Pl
set_option linter.unusedVariables false
set_option linter.unusedSimpArgs false
def unplus : List UInt8 → List UInt8
  | [] => []
  | c :: t => if c = 43 then t else c :: t
theorem trim_unplus (l : List UInt8) : Lib.trimPrefix l [43] = unplus l := by
  cases l with
  | nil => rfl
  | cons c t =>
    by_cases hc : c = 43
    · subst hc
      simp [Lib.trimPrefix, Lib.hasPrefix, unplus]
    · simp [Lib.trimPrefix, Lib.hasPrefix, unplus, hc, Ne.symm hc]
def roD (r : List UInt8) : List UInt8 := if negB r = true then unsign r else unplus r
def roG (a r l : List UInt8) : List UInt8 × Int × Bool :=
  if (resD (roD r)).2 = true ∧ obsText ⟨a.toArray⟩ (sg (negB r) (resD (roD r)).1) = ⟨l.toArray⟩ then (a, sg (negB r) (resD (roD r)).1, true) else ([], 0, false)
def ro (l : List UInt8) : List UInt8 × Int × Bool := match Lib.cut l [32] with | (a, r, _) => roG a r l
theorem ro_cut {l a r : List UInt8} {f : Bool} (h : Lib.cut l [32] = (a, r, f)) : ro l = roG a r l := by rw [ro, h]
theorem roG_ok {a r l : List UInt8} {x : Int} (h1 : resD (roD r) = (x, true)) (h2 : obsText ⟨a.toArray⟩ (sg (negB r) x) = ⟨l.toArray⟩) : roG a r l = (a, sg (negB r) x, true) := by unfold roG; rw [h1, if_pos ⟨rfl, h2⟩]
theorem roG_y {a r l : List UInt8} {x : Int} (h1 : resD (roD r) = (x, false)) : roG a r l = ([], 0, false) := by unfold roG; rw [h1, if_neg (fun h => by cases h.1)]
theorem roG_no {a r l : List UInt8} {x : Int} {y : Bool} (h1 : resD (roD r) = (x, y)) (h2 : y = true → ¬ obsText ⟨a.toArray⟩ (sg (negB r) x) = ⟨l.toArray⟩) : roG a r l = ([], 0, false) := by unfold roG; rw [h1, if_neg (fun h => h2 h.1 h.2)]
theorem readD_bd {l : List UInt8} {n : Int} (h : readD l = some n) : -1000000000000000000 < n ∧ n < 1000000000000000000 ∧ (unsign l).length ≤ 18 ∧ 1 ≤ (unsign l).length ∧ Lib.itoa n = l ∧ ∃ m : Nat, Lib.decFrom 0 (unsign l) = some m ∧ sgn l (m : Int) = n := by
  unfold readD at h
  split at h
  · rename_i hb
    split at h
    · rename_i m hm
      have hlt := Lib.decFrom_lt18 hm hb.2
      split at h
      · rename_i e
        have e2 := Option.some.inj h
        have h3 : -1000000000000000000 < sgn l (m : Int) ∧ sgn l (m : Int) < 1000000000000000000 := by
          unfold sgn
          split <;> omega
        rw [e2] at h3 e
        exact ⟨h3.1, h3.2, hb.2, hb.1, e, m, hm, e2⟩
      · cases h
    · cases h
  · cases h
theorem resD_true {l : List UInt8} {n : Int} (h : resD l = (n, true)) : readD l = some n := by
  unfold resD at h
  cases hr : readD l with
  | none => rw [hr] at h; cases h
  | some m =>
    rw [hr] at h
    injection h with h _
    rw [h]
theorem resD_bd {l : List UInt8} {n : Int} {y : Bool} (h : resD l = (n, y)) : -1000000000000000000 < n ∧ n < 1000000000000000000 := by
  cases y
  · unfold resD at h
    cases hr : readD l with
    | none =>
      rw [hr] at h
      injection h with h _
      omega
    | some m =>
      rw [hr] at h
      injection h with _ h
      cases h
  · have k := readD_bd (resD_true h)
    exact ⟨k.1, k.2.1⟩
/-- The digits of a number: none is a blank or a sign. -/
theorem dec_mem : ∀ (m u : Nat), u ≤ m → ∀ c ∈ Lib.decDigits u, 48 ≤ c.toNat
  | 0, u, h, c, hc => by
    rw [dec_small (by omega)] at hc
    have h2 := dig_toNat u
    simp only [List.mem_cons, List.not_mem_nil, or_false] at hc
    subst hc
    omega
  | m + 1, u, h, c, hc => by
    by_cases h1 : u < 10
    · rw [dec_small h1] at hc
      have h2 := dig_toNat u
      simp only [List.mem_cons, List.not_mem_nil, or_false] at hc
      subst hc
      omega
    · rw [dec_big (by omega), List.mem_append] at hc
      rcases hc with hc | hc
      · exact dec_mem m (u / 10) (by omega) c hc
      · have h2 := dig_toNat u
        simp only [List.mem_cons, List.not_mem_nil, or_false] at hc
        subst hc
        omega
theorem dec_ne (u : Nat) : 1 ≤ (Lib.decDigits u).length := by
  obtain ⟨d, r, e, _⟩ := decDigits_head u u (Nat.le_refl _)
  rw [e]
  simp
def sgnB (m : Int) : UInt8 := if m < 0 then 45 else 43
theorem obsText_at {a : List UInt8} {m : Int} (h : obsB ⟨a.toArray⟩ m = true) : obsText ⟨a.toArray⟩ m = ⟨(a ++ 32 :: sgnB m :: Lib.decDigits m.natAbs).toArray⟩ := by
  rw [obsText, if_pos h, obsStr, sgnB]
  apply ByteArray.ext
  split <;> simp
theorem ba_inj {a b : List UInt8} (h : (⟨a.toArray⟩ : ByteArray) = ⟨b.toArray⟩) : a = b := by
  have h2 := congrArg (fun x : ByteArray => x.data.toList) h
  exact h2
/-- THE KEY. -/
theorem obsText_iff {a r : List UInt8} {m : Int} (e : obsText ⟨a.toArray⟩ m = ⟨(a ++ 32 :: r).toArray⟩) : obsB ⟨a.toArray⟩ m = true ∧ r = sgnB m :: Lib.decDigits m.natAbs := by
  cases h : obsB ⟨a.toArray⟩ m
  · rw [obsText, h] at e
    have e2 := ba_inj (a := []) e
    simp at e2
  · rw [obsText_at h] at e
    have e2 := List.append_cancel_left (ba_inj e)
    injection e2 with _ e3
    exact ⟨rfl, e3.symm⟩
theorem ro_at {l a r : List UInt8} (hl : l = a ++ 32 :: r) (ha : (32 : UInt8) ∉ a) : ro l = roG a r l := ro_cut (f := true) (by rw [hl]; exact cut_some ha)
/-- The rest is not a sign and digits: nothing is read. -/
theorem ro_bad {l a r : List UInt8} (hl : l = a ++ 32 :: r) (ha : (32 : UInt8) ∉ a) (h : ∀ m : Int, ¬ r = sgnB m :: Lib.decDigits m.natAbs) : ro l = ([], 0, false) := by
  rw [ro_at hl ha]
  exact roG_no (x := (resD (roD r)).1) (y := (resD (roD r)).2) rfl (fun _ e => h _ (obsText_iff (hl ▸ e)).2)
theorem ro_many {l : List UInt8} (h : ¬ (spl 32 l).length = 2) : ro l = ([], 0, false) := by
  by_cases h0 : (32 : UInt8) ∈ l
  · obtain ⟨a, b, rfl, ha⟩ := part_at h0
    by_cases hb : (32 : UInt8) ∈ b
    · refine ro_bad rfl ha ?_
      intro m e
      rw [e, List.mem_cons] at hb
      rcases hb with hb | hb
      · unfold sgnB at hb
        split at hb <;> exact absurd hb (by decide)
      · exact absurd (dec_mem _ _ (Nat.le_refl _) _ hb) (by decide)
    · rw [spl_two ha hb] at h
      simp at h
  · rw [ro_cut (cut_none h0)]
    exact roG_y (show resD (roD []) = (0, false) from resD_long (by simp [roD, negB, unplus, unsign]))
theorem ro_short {l a r : List UInt8} (hl : l = a ++ 32 :: r) (ha : (32 : UInt8) ∉ a) (h : r.length < 2) : ro l = ([], 0, false) := by
  refine ro_bad hl ha ?_
  intro m e
  have := dec_ne m.natAbs
  rw [e, List.length_cons] at h
  omega
theorem ro_sign {l a t : List UInt8} {c : UInt8} (hl : l = a ++ 32 :: c :: t) (ha : (32 : UInt8) ∉ a) (h1 : ¬ c = 43) (h2 : ¬ c = 45) : ro l = ([], 0, false) := by
  refine ro_bad hl ha ?_
  intro m e
  injection e with e _
  unfold sgnB at e
  split at e
  · exact h2 e
  · exact h1 e
theorem itoa_nonneg {n : Int} (h : 0 ≤ n) : Lib.itoa n = Lib.decDigits n.natAbs := by
  obtain ⟨u, rfl⟩ := Int.eq_ofNat_of_zero_le h
  rw [itoa_nat, Int.natAbs_natCast]
section
variable {l a t : List UInt8} {n : Int} {y : Bool}
/-- Behind a plus. -/
theorem ro_plus_ok (hl : l = a ++ 32 :: 43 :: t) (ha : (32 : UInt8) ∉ a) (hn : resD t = (n, true)) (h0 : ¬ n < 0) (ho : obsB ⟨a.toArray⟩ n = true) : ro l = (a, n, true) := by
  rw [ro_at hl ha]
  have k := readD_bd (resD_true hn)
  have e : Lib.decDigits n.natAbs = t := by rw [← itoa_nonneg (by omega)]; exact k.2.2.2.2.1
  exact roG_ok (show resD (roD (43 :: t)) = (n, true) from hn) (by show obsText ⟨a.toArray⟩ n = _; rw [obsText_at ho, hl, sgnB, if_neg h0, e])
theorem ro_plus_no (hl : l = a ++ 32 :: 43 :: t) (ha : (32 : UInt8) ∉ a) (hn : resD t = (n, y)) (h : y = false ∨ n < 0 ∨ obsB ⟨a.toArray⟩ n = false) : ro l = ([], 0, false) := by
  rw [ro_at hl ha]
  refine roG_no (show resD (roD (43 :: t)) = (n, y) from hn) ?_
  intro hy e
  have k := obsText_iff (m := n) (hl ▸ e)
  rcases h with h | h | h
  · rw [h] at hy; cases hy
  · have e2 := k.2
    rw [sgnB, if_pos h] at e2
    injection e2 with e2 _
    exact absurd e2 (by decide)
  · rw [k.1] at h; cases h
/-- Behind a minus. -/
theorem minus_iff (u : Nat) (hu : 0 < u) (ht : t = Lib.decDigits u) : resD t = ((u : Int), true) ↔ resD (45 :: t) = (-(u : Int), true) := by
  obtain ⟨d, r, e, hd⟩ := decDigits_head u u (Nat.le_refl _)
  have hne : t.head? ≠ some 45 := by
    rw [ht, e]
    intro h
    have h2 := Option.some.inj h
    rw [h2] at hd
    exact absurd hd (by decide)
  have hut : unsign t = t := unsign_pos hne
  constructor
  · intro h
    obtain ⟨_, _, h18, h1, _, m, hm, hs⟩ := readD_bd (resD_true h)
    rw [hut] at h18 h1 hm
    rw [sgn_pos hne] at hs
    have em : m = u := by omega
    subst em
    exact resD_ok (l := 45 :: t) h1 h18 hm sgn_neg (by rw [itoa_neg hu, ht]; simp)
  · intro h
    obtain ⟨_, _, h18, h1, _, m, hm, hs⟩ := readD_bd (resD_true h)
    rw [show unsign (45 :: t) = t from rfl] at h18 h1 hm
    rw [sgn_neg] at hs
    have em : m = u := by omega
    subst em
    exact resD_ok (l := t) (by rw [hut]; exact h1) (by rw [hut]; exact h18) (by rw [hut]; exact hm) (sgn_pos hne) (by rw [itoa_nat, ht]; simp)
theorem minus_spec (h : resD (45 :: t) = (n, true)) : ∃ u : Nat, 0 < u ∧ n = -(u : Int) ∧ t = Lib.decDigits u := by
  obtain ⟨_, _, _, _, hi, _⟩ := readD_bd (resD_true h)
  rcases Int.lt_or_le n 0 with h0 | h0
  · obtain ⟨u, hu⟩ := Int.eq_ofNat_of_zero_le (show 0 ≤ -n by omega)
    have e : n = -(u : Int) := by omega
    subst e
    rw [itoa_neg (by omega)] at hi
    injection hi with _ hi
    exact ⟨u, by omega, rfl, hi.symm⟩
  · rw [itoa_nonneg h0] at hi
    have := dec_mem _ n.natAbs (Nat.le_refl _) 45 (by rw [hi]; simp)
    exact absurd this (by decide)
theorem ro_minus_ok (hl : l = a ++ 32 :: 45 :: t) (ha : (32 : UInt8) ∉ a) (hn : resD (45 :: t) = (n, true)) (ho : obsB ⟨a.toArray⟩ n = true) : ro l = (a, n, true) := by
  rw [ro_at hl ha]
  obtain ⟨u, hu, rfl, ht⟩ := minus_spec hn
  have h2 := (minus_iff u hu ht).2 hn
  exact roG_ok (r := 45 :: t) (x := (u : Int)) (show resD (roD (45 :: t)) = _ from h2) (by show obsText ⟨a.toArray⟩ (-(u : Int)) = _; rw [obsText_at ho, hl, sgnB, if_pos (by omega), Int.natAbs_neg, Int.natAbs_natCast, ← ht])
theorem ro_minus_no (hl : l = a ++ 32 :: 45 :: t) (ha : (32 : UInt8) ∉ a) (hn : resD (45 :: t) = (n, y)) (h : y = false ∨ obsB ⟨a.toArray⟩ n = false) : ro l = ([], 0, false) := by
  rw [ro_at hl ha]
  obtain ⟨x, yx, hx⟩ : ∃ x yx, resD t = (x, yx) := ⟨_, _, rfl⟩
  refine roG_no (r := 45 :: t) (show resD (roD (45 :: t)) = (x, yx) from hx) ?_
  intro hy e
  subst hy
  obtain ⟨k1, k2⟩ := obsText_iff (m := -x) (hl ▸ e)
  injection k2 with k2 k3
  have hx0 : 0 < x := by
    unfold sgnB at k2
    split at k2
    · omega
    · exact absurd k2 (by decide)
  obtain ⟨u, rfl⟩ := Int.eq_ofNat_of_zero_le (show 0 ≤ x by omega)
  rw [Int.natAbs_neg, Int.natAbs_natCast] at k3
  have h2 := (minus_iff u (by omega) k3).1 hx
  rw [h2] at hn
  injection hn with e1 e2
  subst e1 e2
  rcases h with h | h
  · cases h
  · rw [k1] at h; cases h
end
theorem roa_end : True := trivial
end Go.Proofs.YtdplmbndafmlgaaDoor
