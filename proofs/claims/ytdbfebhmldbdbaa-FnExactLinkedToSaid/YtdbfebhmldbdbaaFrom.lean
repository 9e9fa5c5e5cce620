/-
  Contracts: the code of common estimates and an observer; facts on the rounds.
-/
import Derived.Test.YtdbfebhmldbdbaaSpr
namespace Go.Proofs.Ytdbfebhmldbdbaa
open Go.RowKit Pl
set_option linter.unusedVariables false
set_option linter.unusedSimpArgs false
def fromCode (n : Int) (l : List ComT) (f : Int) : Int := if comsB n l = false then 1 else if inB f 0 (n - 1) = false then 2 else 0
theorem l05Code_any (A : Option Addr) (c : Nat) (n : Int) (l : List ComT) (f : Int) (w : World) (hl : l.length ≤ 1048576) (hr : Rd w w.heap.size 3 A l.length (l.flatMap ComT.cells)) :
    Calls Try.prog 36 #[.int .i64 n, .slice A l.length c, .int .i64 f] w fun e w' => e = .returned (.int .i64 (fromCode n l f)) ∧ Below w.heap.size w w' := by
  have HR := hide hr
  clear hr
  cases h1 : comsB n l
  · go_enter Try.func36, Try.ntmps36
    go_wp2_with (go_at_call 27; refine (l05Commons_any A c n l _ hl HR.out).mono ?_; rintro e w' ⟨rfl, q, rfl⟩)
    go_ret
    exact ⟨ret_int (by simp [fromCode, h1]), (by repeat (first | exact Below.refl _ _ | assumption | refine Below.drew ?_ | refine below_drewN ?_ _ | refine Below.alloc ?_ (by first | omega | (simp; done) | (simp; omega)) _ | refine Below.setCell ?_ (by first | omega | (simp; done) | (simp; omega)) _ | refine Below.trans ?_ (Below.mono (by assumption) (by first | omega | (simp; done) | (simp; omega)))))⟩
  obtain ⟨n1, n2, hl60, _⟩ := coms_true h1
  cases h2 : inB f 0 (n - 1)
  · go_enter Try.func36, Try.ntmps36
    go_wp2_with (first | (go_at_call 27; refine (l05Commons_any A c n l _ hl HR.out).mono ?_; rintro e w' ⟨rfl, q, rfl⟩) | (go_at_call 28; refine (l00In_any _ _ _ _).mono ?_; rintro e w' ⟨rfl, rfl⟩))
    go_ret
    exact ⟨ret_int (by simp [fromCode, h1, h2]), (by repeat (first | exact Below.refl _ _ | assumption | refine Below.drew ?_ | refine below_drewN ?_ _ | refine Below.alloc ?_ (by first | omega | (simp; done) | (simp; omega)) _ | refine Below.setCell ?_ (by first | omega | (simp; done) | (simp; omega)) _ | refine Below.trans ?_ (Below.mono (by assumption) (by first | omega | (simp; done) | (simp; omega)))))⟩
  · go_enter Try.func36, Try.ntmps36
    go_wp2_with (first | (go_at_call 27; refine (l05Commons_any A c n l _ hl HR.out).mono ?_; rintro e w' ⟨rfl, q, rfl⟩) | (go_at_call 28; refine (l00In_any _ _ _ _).mono ?_; rintro e w' ⟨rfl, rfl⟩))
    go_ret
    exact ⟨ret_int (by simp [fromCode, h1, h2]), (by repeat (first | exact Below.refl _ _ | assumption | refine Below.drew ?_ | refine below_drewN ?_ _ | refine Below.alloc ?_ (by first | omega | (simp; done) | (simp; omega)) _ | refine Below.setCell ?_ (by first | omega | (simp; done) | (simp; omega)) _ | refine Below.trans ?_ (Below.mono (by assumption) (by first | omega | (simp; done) | (simp; omega)))))⟩
/-- What a good list says of a number of observers. -/
theorem coms_in {n : Int} {l : List ComT} (h : comsB n l = true) : InR n.toNat l := by
  obtain ⟨h1, _, _, h4⟩ := coms_true h
  intro x hx
  obtain ⟨i, hi, rfl⟩ := List.getElem_of_mem hx
  obtain ⟨a1, a2, b1, b2, e, d1, d2⟩ := h4 i hi
  exact ⟨a1, by omega, b1, by omega, e, d1, d2⟩
/-- The numbers of b in the list's order serve as well. -/
theorem rNum_li {n : Nat} {l : List ComT} {sh : List Int} {kn : List Bool} {b : Nat} (h : InR n l) (hk : kat kn b = false) : (li l sh kn b).length = (rNum n l sh kn b).length ∧ med (li l sh kn b) = med (rNum n l sh kn b) := by
  unfold rNum
  rw [if_neg (by rw [hk]; simp)]
  have hp := li_ls sh kn (b : Int) h
  exact ⟨hp.length_eq, med_perm hp⟩
theorem rSh_known {n : Nat} {l : List ComT} {sh : List Int} {kn : List Bool} {b : Nat} (hk : kat kn b = true) : rSh n l sh kn b = sat sh b ∧ rKn n l sh kn b = true := by
  unfold rSh rKn rNum
  rw [if_pos hk, hk]
  exact ⟨rfl, rfl⟩
theorem rSh_none {n : Nat} {l : List ComT} {sh : List Int} {kn : List Bool} {b : Nat} (hk : kat kn b = false) (h0 : (rNum n l sh kn b).length = 0) : rSh n l sh kn b = sat sh b ∧ rKn n l sh kn b = false := by
  unfold rSh rKn
  rw [if_pos h0, hk]
  simp [h0]
theorem rSh_some {n : Nat} {l : List ComT} {sh : List Int} {kn : List Bool} {b : Nat} (h0 : ¬ (rNum n l sh kn b).length = 0) : rSh n l sh kn b = med (rNum n l sh kn b) ∧ rKn n l sh kn b = true := by
  unfold rSh rKn
  rw [if_neg h0]
  simp [h0]
/-- More of a round, as far as k. -/
def moreK (n : Nat) (l : List ComT) (sh : List Int) (kn : List Bool) (k : Nat) : Bool := (List.range k).any fun b => !decide ((rNum n l sh kn b).length = 0)
theorem moreK_zero (n : Nat) (l : List ComT) (sh : List Int) (kn : List Bool) : moreK n l sh kn 0 = false := rfl
theorem moreK_next (n : Nat) (l : List ComT) (sh : List Int) (kn : List Bool) (k : Nat) : moreK n l sh kn (k + 1) = (moreK n l sh kn k || !decide ((rNum n l sh kn k).length = 0)) := by
  unfold moreK; rw [List.range_succ, List.any_append]; simp
theorem moreK_all (n : Nat) (l : List ComT) (sh : List Int) (kn : List Bool) : moreK n l sh kn n = moreR n l sh kn := rfl
/-- A round's row as far as k: the new ones below k, from k on the old ones. -/
def shK (n : Nat) (l : List ComT) (sh : List Int) (kn : List Bool) (k : Nat) : List Int := (List.range n).map fun b : Nat => if b < k then rSh n l sh kn b else sat sh b
def knK (n : Nat) (l : List ComT) (sh : List Int) (kn : List Bool) (k : Nat) : List Bool := (List.range n).map fun b : Nat => if b < k then rKn n l sh kn b else kat kn b
theorem shK_zero {n : Nat} {l : List ComT} {sh : List Int} {kn : List Bool} (h : sh.length = n) : shK n l sh kn 0 = sh := by
  apply List.ext_getElem
  · simp [shK, h]
  · intro i h1 h2; simp [shK, sat, List.getD_eq_getElem?_getD, h2]
theorem knK_zero {n : Nat} {l : List ComT} {sh : List Int} {kn : List Bool} (h : kn.length = n) : knK n l sh kn 0 = kn := by
  apply List.ext_getElem
  · simp [knK, h]
  · intro i h1 h2; simp [knK, kat, List.getD_eq_getElem?_getD, h2]
theorem shK_all (n : Nat) (l : List ComT) (sh : List Int) (kn : List Bool) : shK n l sh kn n = shR n l sh kn := by
  unfold shK shR
  exact List.map_congr_left (fun b hb => by rw [if_pos (List.mem_range.1 hb)])
theorem knK_all (n : Nat) (l : List ComT) (sh : List Int) (kn : List Bool) : knK n l sh kn n = knR n l sh kn := by
  unfold knK knR
  exact List.map_congr_left (fun b hb => by rw [if_pos (List.mem_range.1 hb)])
/-- The next one: a store at k. -/
theorem shK_set (n : Nat) (l : List ComT) (sh : List Int) (kn : List Bool) (k : Nat) (hk : k < n) : shK n l sh kn (k + 1) = (shK n l sh kn k).set k (rSh n l sh kn k) := by
  apply List.ext_getElem
  · simp [shK]
  · intro i h1 h2
    simp only [shK, List.length_map, List.length_range] at h1
    rw [List.getElem_set]
    simp only [shK, List.getElem_map, List.getElem_range]
    by_cases e : k = i
    · subst e; rw [if_pos rfl, if_pos (by omega)]
    · rw [if_neg e]
      by_cases h : i < k
      · rw [if_pos h, if_pos (by omega)]
      · rw [if_neg h, if_neg (by omega)]
theorem knK_set (n : Nat) (l : List ComT) (sh : List Int) (kn : List Bool) (k : Nat) (hk : k < n) : knK n l sh kn (k + 1) = (knK n l sh kn k).set k (rKn n l sh kn k) := by
  apply List.ext_getElem
  · simp [knK]
  · intro i h1 h2
    simp only [knK, List.length_map, List.length_range] at h1
    rw [List.getElem_set]
    simp only [knK, List.getElem_map, List.getElem_range]
    by_cases e : k = i
    · subst e; rw [if_pos rfl, if_pos (by omega)]
    · rw [if_neg e]
      by_cases h : i < k
      · rw [if_pos h, if_pos (by omega)]
      · rw [if_neg h, if_neg (by omega)]
theorem from_end : True := trivial
end Go.Proofs.Ytdbfebhmldbdbaa
