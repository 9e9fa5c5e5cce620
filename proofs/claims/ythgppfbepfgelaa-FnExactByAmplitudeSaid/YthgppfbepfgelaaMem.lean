/-
  Words for memory: 'Rd': a slice's cells read as a list of values; lemmas on flat lists of cells. No program.
-/
import Derived.WalkKit
import Derived.Deep.Draws
namespace Go.Proofs.Ythgppfbepfgelaa
open Go.RowKit

theorem hide {p : Prop} (h : p) : Hid p := h
theorem below_drewN {B : Nat} {a w : World} (h : Below B a w) (n : Nat) : Below B a (w.drewN n) := ⟨h.os, h.tape, h.output, h.size, h.block⟩

theorem bcell {W w1 : World} (hb : Below W.heap.size W w1) : (∀ b o, b < W.heap.size → w1.cell? ⟨b, o, none⟩ = W.cell? ⟨b, o, none⟩) ∧ (∀ b o, b < W.heap.size → w1.frozen? ⟨b, o, none⟩ = W.frozen? ⟨b, o, none⟩) :=
  ⟨fun b o h => hb.cell (p := ⟨b, o, none⟩) h, fun b o h => hb.frozen (p := ⟨b, o, none⟩) h⟩

/-- The slice (A, n) of elements of 'size' cells reads as the cells xs, in a block below B. -/
def Rd (w : World) (B size : Nat) (A : Option Addr) (n : Nat) (xs : List Value) : Prop :=
  xs.length = n * size ∧ (0 < n → ∃ g off, A = some ⟨g, off, none⟩ ∧ g < B ∧ ∀ j u, xs[j]? = some u → w.cell? ⟨g, off + j, none⟩ = some u)

section
variable {w w' : World} {B B' size n : Nat} {A : Option Addr} {xs : List Value}
theorem Rd.nil_ : Rd w B size A 0 [] := ⟨by simp, fun h => absurd h (by omega)⟩
theorem Rd.keep (h : Rd w B size A n xs) (hk : ∀ p : Addr, p.block < B → w'.cell? p = w.cell? p) : Rd w' B size A n xs :=
  ⟨h.1, fun hn => by
    obtain ⟨g, off, e, hb, hc⟩ := h.2 hn
    exact ⟨g, off, e, hb, fun j u hu => (hk _ hb).trans (hc j u hu)⟩⟩
theorem Rd.more (h : Rd w B size A n xs) (hB : B ≤ B') : Rd w B' size A n xs :=
  ⟨h.1, fun hn => by
    obtain ⟨g, off, e, hb, hc⟩ := h.2 hn
    exact ⟨g, off, e, by omega, hc⟩⟩
theorem Rd.below (h : Rd w B size A n xs) (hb : Below B w w') : Rd w' B size A n xs := h.keep fun _ hp => hb.cell hp
theorem Rd.drew (h : Rd w B size A n xs) : Rd w.drew B size A n xs := h
theorem Rd.drewN (h : Rd w B size A n xs) (k : Nat) : Rd (w.drewN k) B size A n xs := h
theorem Rd.alloc (h : Rd w B size A n xs) (hB : B ≤ w.heap.size) (o : Obj) : Rd (w.alloc o) B size A n xs := h.keep fun p hp => World.cell?_alloc_lt w o p (by omega)
theorem Rd.len (h : Rd w B size A n xs) : xs.length = n * size := h.1
/-- A cell of element i. -/
theorem Rd.at_ (h : Rd w B size A n xs) {i : Nat} (hi : i < n) : ∃ g off, A = some ⟨g, off, none⟩ ∧ g < B ∧ ∀ j u, xs[j]? = some u → w.cell? ⟨g, off + j, none⟩ = some u := h.2 (by omega)
end

/-- A list whose elements are k cells each, cell by cell. -/
theorem flat_get {α : Type} (f : α → List Value) (k : Nat) (hk : ∀ x, (f x).length = k) : ∀ (l : List α) (i j : Nat), j < k → (l.flatMap f)[i * k + j]? = (l[i]?).bind fun x => (f x)[j]?
  | [], i, j, _ => by simp
  | x :: l, 0, j, hj => by
    rw [List.flatMap_cons, List.getElem?_append_left (by rw [hk]; omega)]; simp
  | x :: l, i + 1, j, hj => by
    have e : (i + 1) * k + j = (f x).length + (i * k + j) := by rw [hk, Nat.add_mul]; omega
    rw [List.flatMap_cons, List.getElem?_append_right (by omega), e, Nat.add_sub_cancel_left, flat_get f k hk l i j hj]; simp
theorem flat_len {α : Type} (f : α → List Value) (k : Nat) (hk : ∀ x, (f x).length = k) : ∀ l : List α, (l.flatMap f).length = l.length * k
  | [] => by simp
  | x :: l => by rw [List.flatMap_cons, List.length_append, hk, flat_len f k hk l, List.length_cons, Nat.add_mul]; omega
/-- Facts for each index make a list. -/
theorem list_of {α : Type} {P : Nat → α → Prop} : ∀ n : Nat, (∀ i, i < n → ∃ x, P i x) → ∃ l : List α, l.length = n ∧ ∀ i x, l[i]? = some x → P i x
  | 0, _ => ⟨[], rfl, fun i x h => by simp at h⟩
  | n + 1, h => by
    obtain ⟨l, hl, hp⟩ := list_of n fun i hi => h i (by omega)
    obtain ⟨x, hx⟩ := h n (by omega)
    refine ⟨l ++ [x], by simp [hl], fun i y hy => ?_⟩
    rcases Nat.lt_or_ge i l.length with hi | hi
    · rw [List.getElem?_append_left hi] at hy; exact hp i y hy
    · rw [List.getElem?_append_right hi] at hy
      have : i - l.length = 0 := by
        rcases Nat.eq_zero_or_pos (i - l.length) with e | e
        · exact e
        · rw [List.getElem?_eq_none (by simp; omega)] at hy; cases hy
      rw [this] at hy
      simp at hy
      subst hy
      have : i = n := by omega
      subst this; exact hx
/-- From cells at 'a.add' to 'Rd'. -/
theorem rd_of {α : Type} {w : World} {B n k : Nat} {a : Addr} {f : α → List Value} (hk : ∀ x, (f x).length = k) (hk0 : 0 < k) {ok : α → Prop}
    (h : ∀ i, i < n → ∃ x, ok x ∧ ∀ j u, (f x)[j]? = some u → w.cell? (a.add (i * k + j)) = some u) (hB : ∀ v, w.cell? a = some v → a.block < B) :
    ∃ l : List α, l.length = n ∧ Rd w B k (some a) n (l.flatMap f) ∧ ∀ x ∈ l, ok x := by
  obtain ⟨l, hl, hp⟩ := list_of n h
  refine ⟨l, hl, ⟨by rw [flat_len f k hk, hl], fun hn => ?_⟩, fun x hx => ?_⟩
  · obtain ⟨x0, hx0⟩ : ∃ x, l[0]? = some x := ⟨_, List.getElem?_eq_getElem (by omega)⟩
    obtain ⟨u0, hu0⟩ : ∃ u, (f x0)[0]? = some u := ⟨_, List.getElem?_eq_getElem (by rw [hk]; omega)⟩
    have h0 := (hp 0 x0 hx0).2 0 u0 hu0
    obtain ⟨g, off, spot⟩ := a
    have e : spot = none := by simpa [Addr.add] using World.cell?_spot h0
    subst e
    refine ⟨g, off, rfl, hB _ (by simpa [Addr.add] using h0), fun j u hu => ?_⟩
    have hj : j < l.length * k := by
      rcases Nat.lt_or_ge j (l.length * k) with hlt | hge
      · exact hlt
      · rw [List.getElem?_eq_none (by rw [flat_len f k hk]; omega)] at hu; cases hu
    have hd : j = j / k * k + j % k := by have := Nat.div_add_mod j k; rw [Nat.mul_comm] at this; omega
    have hm : j % k < k := Nat.mod_lt _ hk0
    rw [hd, flat_get f k hk l _ _ hm] at hu
    cases hx : l[j / k]? with
    | none => rw [hx] at hu; cases hu
    | some x =>
      rw [hx] at hu
      have := (hp _ x hx).2 _ u hu
      rw [← hd] at this
      unfold Addr.add at this
      split at this
      · rename_i hz; rw [hz]; simpa using this
      · exact this
  · obtain ⟨i, hi⟩ := List.getElem?_of_mem hx
    exact (hp i x hi).1
end Go.Proofs.Ythgppfbepfgelaa
