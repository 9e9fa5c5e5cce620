/-
  Words for lists that a call makes by itself: what owns its row, what else may have changed. No program.
-/
import Derived.Test.YthgppfbepfgelaaMem2
import Derived.Test.YthgppfbepfgelaaTy
import Derived.Laws.AppendOwn
namespace Go.Proofs.Ythgppfbepfgelaa
open Go.RowKit
/-- The slice (A, n, c) owns its row, from block lo on; its first n elements (k cells each, type E) are xs. -/
def Own (w : World) (lo : Nat) (E : TypeId) (k : Nat) (A : Option Addr) (n c : Nat) (xs : List Value) : Prop := w.ownsRow lo E k (.slice A n c) n xs
/-- Block g alone may have changed, and new ones have come. -/
abbrev Only (w w' : World) (A : Option Addr) : Prop := w.grownBy w' (Value.slice A 0 0).ownBlock
section
variable {w w' : World} {lo k n c : Nat} {E : TypeId} {A A' : Option Addr} {xs : List Value}
theorem own_cases {v : Value} (h : w.ownsRow lo E k v n xs) : ∃ A c, v = .slice A n c ∧ Own w lo E k A n c xs := by
  obtain ⟨h1, ⟨rfl, rfl⟩ | ⟨g, cap, cur, rfl, r⟩⟩ := h
  · exact ⟨none, 0, rfl, h1, .inl ⟨rfl, rfl⟩⟩
  · exact ⟨some ⟨g, 0, none⟩, cap, rfl, h1, .inr ⟨g, cap, cur, rfl, r⟩⟩
theorem Own.parts (h : Own w lo E k A n c xs) : xs.length = n * k ∧ n ≤ c ∧ c ≤ maxLen ∧ ((A = none ∧ n = 0 ∧ c = 0) ∨ ∃ g cur, A = some ⟨g, 0, none⟩ ∧ lo ≤ g ∧ Bk w g E cur ∧ cur.size = c * k ∧ cur.toList.take (n * k) = xs) := by
  obtain ⟨h1, ⟨h2, rfl⟩ | ⟨g, cap, cur, h2, h3, h4, h5, h6, h7, h8⟩⟩ := h
  · injection h2 with h2 _ h3
    subst h2 h3
    exact ⟨h1, Nat.le_refl _, by simp [maxLen], .inl ⟨rfl, rfl, rfl⟩⟩
  · injection h2 with h2 _ h9
    subst h2 h9
    exact ⟨h1, h5, h6, .inr ⟨g, cur, rfl, h3, h4, h7, h8⟩⟩
theorem Own.mk_ (h1 : xs.length = n * k) (h2 : n ≤ c) (h3 : c ≤ maxLen) {g : Nat} {cur : Array Value} (hlo : lo ≤ g) (hB : Bk w g E cur) (hs : cur.size = c * k) (ht : cur.toList.take (n * k) = xs) : Own w lo E k (some ⟨g, 0, none⟩) n c xs :=
  ⟨h1, .inr ⟨g, c, cur, rfl, hlo, hB, h2, h3, hs, ht⟩⟩
theorem Own.none_ : Own w lo E k none 0 0 [] := World.ownsRow_nil _ _ _ _
theorem Own.lt (h : Own w lo E k A n c xs) {g : Nat} (ha : (Value.slice A n c).ownBlock = some g) : lo ≤ g ∧ g < w.heap.size := World.ownsRow.lt h g ha
theorem ownBlock_any (A : Option Addr) (n c n' c' : Nat) : (Value.slice A n c).ownBlock = (Value.slice A n' c').ownBlock := by cases A <;> rfl
theorem below_grown (h : Below w.heap.size w w') : w.grownBy w' none := ⟨h.os, h.tape, h.output, h.size, fun j hj _ => h.block j hj⟩
theorem Only.below (h : Only w w' none) : Below w.heap.size w w' := ⟨h.os, h.tape, h.output, h.size, fun j hj => h.block j hj (by simp [Value.ownBlock])⟩
theorem Own.below (h : Own w lo E k A n c xs) (hb : Below w.heap.size w w') : Own w' lo E k A n c xs := World.ownsRow.kept h (below_grown hb) (by cases A <;> simp [Value.ownBlock])
/-- Another block has changed. -/
theorem Own.far (h : Own w lo E k A n c xs) (hg : Only w w' A') (hne : ∀ g g', (Value.slice A 0 0).ownBlock = some g → (Value.slice A' 0 0).ownBlock = some g' → g ≠ g') : Own w' lo E k A n c xs := by
  refine World.ownsRow.kept h hg ?_
  cases A with
  | none => left; rfl
  | some a =>
    right
    cases A' with
    | none => simp [Value.ownBlock]
    | some a' => have := hne a.block a'.block rfl rfl; simpa [Value.ownBlock] using this
theorem Own.rd (h : Own w lo E k A n c xs) : Rd w w.heap.size k A n xs := by
  obtain ⟨h1, h2, h3, ⟨rfl, rfl, rfl⟩ | ⟨g, cur, rfl, hlo, hB, hs, ht⟩⟩ := h.parts
  · have : xs = [] := List.eq_nil_of_length_eq_zero (by simpa using h1)
    subst this; exact Rd.nil_
  · refine ⟨h1, fun _ => ⟨g, 0, rfl, hB.lt, fun j u hu => ?_⟩⟩
    rw [Nat.zero_add, hB.cell]
    subst ht
    have hj : j < n * k := by
      rcases Nat.lt_or_ge j (n * k) with h0 | h0
      · exact h0
      · rw [List.getElem?_eq_none (by simp; omega)] at hu; cases hu
    rw [List.getElem?_take_of_lt hj] at hu
    simpa using hu
theorem Bk.own {g : Nat} {cs : Array Value} (h : Bk w g E cs) (hlo : lo ≤ g) (hs : cs.size = n * k) (hn : n ≤ maxLen) : Own w lo E k (some ⟨g, 0, none⟩) n n cs.toList :=
  Own.mk_ (by simpa using hs) (Nat.le_refl _) hn hlo h hs (by rw [List.take_of_length_le (by simp [hs])])
theorem Bk.grown {g : Nat} {cs : Array Value} {row : Option Nat} (h : Bk w g E cs) (hg : w.grownBy w' row) (hne : some g ≠ row) : Bk w' g E cs := (hg.block g h.lt hne).trans h
/-- One element more is laid down, in a row that may be longer. -/
theorem put_next' {α : Type} {f : α → List Value} {k : Nat} (hk : ∀ x, (f x).length = k) {l : List α} {i : Nat} (hi : i < l.length) {cs : Array Value} (hs : l.length * k ≤ cs.size) (h : ∀ j, j < i * k → cs[j]? = (l.flatMap f)[j]?) :
    ∀ j, j < (i + 1) * k → (putAll cs (i * k) (f l[i]))[j]? = (l.flatMap f)[j]? := by
  intro j hj
  have h1 : (i + 1) * k ≤ l.length * k := Nat.mul_le_mul_right _ hi
  rw [Nat.add_mul, Nat.one_mul] at hj h1
  rw [putAll_get _ _ _ _ (by rw [hk]; omega), hk]
  by_cases h2 : i * k ≤ j
  · rw [if_pos ⟨h2, hj⟩]
    have e : j = i * k + (j - i * k) := by omega
    rw [e, flat_get f k hk l i _ (by omega), List.getElem?_eq_getElem hi]
    simp
  · rw [if_neg (by omega)]
    exact h j (by omega)
theorem put_all' {α : Type} {f : α → List Value} {k : Nat} (hk : ∀ x, (f x).length = k) {l : List α} {cs : Array Value} (hs : l.length * k ≤ cs.size) (h : ∀ j, j < l.length * k → cs[j]? = (l.flatMap f)[j]?) : cs.toList.take (l.length * k) = l.flatMap f := by
  apply List.ext_getElem?
  intro j
  rcases Nat.lt_or_ge j (l.length * k) with h1 | h1
  · rw [List.getElem?_take_of_lt h1, Array.getElem?_toList, h j h1]
  · rw [List.getElem?_eq_none (by simp; omega), List.getElem?_eq_none (by rw [flat_len f k hk]; omega)]
end
end Go.Proofs.Ythgppfbepfgelaa
