/-
  Plain words on lists that are chosen from others. No program.
-/
import Derived.Test.YthgppfbepfgelaaOwn
import Derived.Test.YthgppfbepfgelaaRec
namespace Go.Proofs.Ythgppfbepfgelaa
open Go.RowKit
set_option linter.unusedVariables false
set_option linter.unusedSimpArgs false
/-- The numbers below n at which q holds. -/
def whI (q : Nat → Bool) (n : Nat) : List Int := ((List.range n).filter q).map fun (i : Nat) => (i : Int)
section
variable {q : Nat → Bool} {n : Nat}
theorem whI_zero : whI q 0 = [] := rfl
theorem whI_hit (h : q n = true) : whI q (n + 1) = whI q n ++ [(n : Int)] := by simp [whI, List.range_succ, h]
theorem whI_miss (h : q n = false) : whI q (n + 1) = whI q n := by simp [whI, List.range_succ, h]
theorem whI_le : (whI q n).length ≤ n := by
  rw [whI, List.length_map]
  exact Nat.le_trans (List.length_filter_le _ _) (by simp)
theorem ints_app (a b : List Int) : ints (a ++ b) = ints a ++ ints b := by simp [ints]
end
/-- The first n elements' chosen ones. -/
def flt {α : Type} (q : α → Bool) (l : List α) (n : Nat) : List α := (l.take n).filter q
section
variable {α : Type} {q : α → Bool} {l : List α} {n : Nat}
theorem flt_zero : flt q l 0 = [] := by simp [flt]
theorem flt_hit (hn : n < l.length) (h : q l[n] = true) : flt q l (n + 1) = flt q l n ++ [l[n]] := by
  have e : List.filter q (some l[n]).toList = [l[n]] := by simp [h]
  rw [flt, List.take_add_one, List.getElem?_eq_getElem hn, List.filter_append, e]
  rfl
theorem flt_miss (hn : n < l.length) (h : q l[n] = false) : flt q l (n + 1) = flt q l n := by
  have e : List.filter q (some l[n]).toList = [] := by simp [h]
  rw [flt, List.take_add_one, List.getElem?_eq_getElem hn, List.filter_append, e, List.append_nil]
  rfl
theorem flt_le : (flt q l n).length ≤ n := by
  rw [flt]
  exact Nat.le_trans (List.length_filter_le _ _) (by simp; omega)
end
section
variable {w w' : World} {lo k n c : Nat} {E : TypeId} {A A' : Option Addr} {xs : List Value}
/-- Two rows lie apart. -/
def Apart (A A' : Option Addr) : Prop := ∀ g g', (Value.slice A 0 0).ownBlock = some g → (Value.slice A' 0 0).ownBlock = some g' → g ≠ g'
theorem Own.apart {lo' k' n' c' : Nat} {E' : TypeId} {xs' : List Value} (h : Own w lo E k A n c xs) (h' : Own w' lo' E' k' A' n' c' xs') (hle : w.heap.size ≤ lo') : Apart A A' := by
  intro g g' hg hg'
  have h1 := (h.lt (g := g) (by rw [← hg]; exact ownBlock_any _ _ _ _ _)).2
  have h2 := (h'.lt (g := g') (by rw [← hg']; exact ownBlock_any _ _ _ _ _)).1
  omega
theorem Apart.symm (h : Apart A A') : Apart A' A := fun g g' hg hg' e => h g' g hg' hg e.symm
theorem Own.base {lo' : Nat} (h : Own w lo E k A n c xs) (hle : lo' ≤ lo) : Own w lo' E k A n c xs := by
  obtain ⟨h1, h2 | ⟨g, cap, cur, e, h3, r⟩⟩ := h
  · exact ⟨h1, .inl h2⟩
  · exact ⟨h1, .inr ⟨g, cap, cur, e, Nat.le_trans hle h3, r⟩⟩
/-- What has changed that row alone has left what lay ahead of it. -/
theorem Below.only {B : Nat} {w0 : World} (h : Below B w0 w) (hs : B ≤ w.heap.size) (ho : Own w lo E k A n c xs) (hg : Only w w' A) (hB : B ≤ lo) : Below B w0 w' := by
  refine h.grown hg hs (fun g hg => ?_)
  exact Nat.le_trans hB (ho.lt (g := g) (by rw [← hg]; exact ownBlock_any _ _ _ _ _)).1
theorem Own.fit {n' : Nat} {xs' : List Value} (h : Own w lo E k A n c xs) (e : n = n') (e' : xs = xs') : Own w lo E k A n' c xs' := by subst e e'; exact h
/-- A row behind an append of one element. -/
theorem Own.more {v : Value} {m : Nat} {ys zs : List Value} (h : w.ownsRow lo E k v (n + m) (xs ++ ys)) (e : n + m = c) (e' : xs ++ ys = zs) : ∃ A d, v = .slice A c d ∧ Own w lo E k A c d zs := by
  subst e e'
  exact own_cases h
end
theorem Bk.ownF {α : Type} {f : α → List Value} {k : Nat} (hk : ∀ x, (f x).length = k) {w : World} {g lo : Nat} {E : TypeId} {l : List α} (h : Bk w g E (l.flatMap f).toArray) (hlo : lo ≤ g) (hn : l.length ≤ maxLen) : Own w lo E k (some ⟨g, 0, none⟩) l.length l.length (l.flatMap f) := by
  have := h.own (lo := lo) (n := l.length) (k := k) hlo (by simp [flat_len f k hk]) hn
  simpa using this
theorem Bk.ownI {w : World} {g lo : Nat} {E : TypeId} {l : List Int} (h : Bk w g E (ints l).toArray) (hlo : lo ≤ g) (hn : l.length ≤ maxLen) : Own w lo E 1 (some ⟨g, 0, none⟩) l.length l.length (ints l) := by
  have := h.own (lo := lo) (n := l.length) (k := 1) hlo (by simp [ints]) hn
  simpa using this
theorem Own.empty_ {lo : Nat} (w : World) (E : TypeId) (k : Nat) (h : lo ≤ w.heap.size) : Own (w.alloc (.cells #[] E)) lo E k (some ⟨w.heap.size, 0, none⟩) 0 0 [] :=
  Own.mk_ (by simp) (Nat.le_refl _) (by simp [maxLen]) h (Bk.new _ _ _) (by simp) (by simp)
theorem c1_new {w : World} {g : Nat} {E : TypeId} {us : List Value} (h : g = w.heap.size) : ∀ j u, us[j]? = some u → (w.alloc (.cells us.toArray E)).cell? ((⟨g, 0, none⟩ : Addr).add j) = some u := by
  intro j u hu
  subst h
  have hadd : (⟨w.heap.size, 0, none⟩ : Addr).add j = ⟨w.heap.size, j, none⟩ := by unfold Addr.add; split <;> simp_all
  rw [hadd, (Bk.new w E us.toArray).cell j]
  simpa using hu
theorem Own.drewN {w : World} {lo k n c : Nat} {E : TypeId} {A : Option Addr} {xs : List Value} (h : Own w lo E k A n c xs) (m : Nat) : Own (w.drewN m) lo E k A n c xs := h
end Go.Proofs.Ythgppfbepfgelaa
