/-
  Words for memory that a call makes: a new block known whole, and what 'make' gives. No program.
-/
import Derived.Test.YthgppfbepfgelaaMem
import Derived.Laws.MakeOwn
namespace Go.Proofs.Ythgppfbepfgelaa
open Go.RowKit
/-- 'make([]T, n)': a new block of n * k cells. -/
theorem mk_rows {P : Program} {t e : TypeId} {i : TypeInfo} {z : Value} {k b : Nat} (ht : P.underlying t = some (.slice e)) (hi : P.info? e = some i) (hz : i.zero = some z) (hk : i.size = k) (hb : i.bytes = b) (n : Nat) (hn : b * n ≤ 281474976710656) (h63 : n ≤ 9223372036854775807) :
    ∃ Z : Array Value, Z.size = n * k ∧ ∀ W : World, (Instr.makeSlice t (.int .i64 (n : Int)) (.int .i64 (n : Int))).run P W = .ok (.slice (some ⟨W.heap.size, 0, none⟩) n n) (W.alloc (.cells Z e)) := by
  refine ⟨madeCells z.cells (n * i.size), by rw [size_madeCells, hk], fun W => ?_⟩
  have h := run_make (P := P) W t e i z ht hi hz .i64 .i64 n n (by omega) (by omega) (by rw [hb, ← Int.natCast_mul]; omega) (by omega)
  simp only [Int.toNat_natCast] at h
  exact h
/-- Block g is just the cells cs, of element type t, none frozen. -/
def Bk (w : World) (g : Nat) (t : TypeId) (cs : Array Value) : Prop := w.heap[g]? = some (.cells cs t (0, 0))
section
variable {w w' : World} {g : Nat} {t : TypeId} {cs : Array Value}
theorem Bk.lt (h : Bk w g t cs) : g < w.heap.size := by
  rcases Nat.lt_or_ge g w.heap.size with hlt | hge
  · exact hlt
  · unfold Bk at h; rw [Array.getElem?_eq_none hge] at h; cases h
theorem Bk.cell (h : Bk w g t cs) (i : Nat) : w.cell? ⟨g, i, none⟩ = cs[i]? := by
  unfold Bk at h; simp [World.cell?, h]
theorem Bk.frozen (h : Bk w g t cs) (i : Nat) : w.frozen? ⟨g, i, none⟩ = false := by
  unfold Bk at h; simp [World.frozen?, h]
theorem Bk.new (w : World) (t : TypeId) (cs : Array Value) : Bk (w.alloc (.cells cs t)) w.heap.size t cs := by
  show (w.heap.push _)[w.heap.size]? = _
  simp
theorem Bk.below {B : Nat} (h : Bk w g t cs) (hb : Below B w w') (hg : g < B) : Bk w' g t cs := (hb.block g hg).trans h
theorem Bk.drew (h : Bk w g t cs) : Bk w.drew g t cs := h
theorem Bk.drewN (h : Bk w g t cs) (n : Nat) : Bk (w.drewN n) g t cs := h
theorem Bk.alloc (h : Bk w g t cs) (o : Obj) : Bk (w.alloc o) g t cs := (Below.heap_alloc w o g h.lt).trans h
theorem Bk.set_ (h : Bk w g t cs) (i : Nat) (u : Value) : Bk (w.setCell ⟨g, i, none⟩ u) g t (cs.setIfInBounds i u) := by
  unfold Bk at h ⊢
  simp [World.setCell, Array.getElem?_modify, h]
theorem Bk.far (h : Bk w g t cs) {p : Addr} (hp : g ≠ p.block) (u : Value) : Bk (w.setCell p u) g t cs := (Below.heap_setCell w p u g hp).trans h
/-- A block of the call's own reads as a list of cells. -/
theorem Bk.rd {size n B : Nat} (h : Bk w g t cs) (hn : cs.size = n * size) (hB : g < B) : Rd w B size (some ⟨g, 0, none⟩) n cs.toList :=
  ⟨by simpa using hn, fun _ => ⟨g, 0, rfl, hB, fun j u hu => by
    have := h.cell j
    rw [Nat.zero_add, this]; simpa using hu⟩⟩
end
/-- Element i of a slice that reads as a list: its cells, as the walk spells their places. -/
theorem Rd.elem {α : Type} {f : α → List Value} {k : Nat} (hk : ∀ x, (f x).length = k) {w : World} {B : Nat} {A : Option Addr} {l : List α} (h : Rd w B k A l.length (l.flatMap f)) {i : Nat} (hi : i < l.length) :
    ∃ g off, A = some ⟨g, off, none⟩ ∧ g < B ∧ ∀ j u, (f l[i])[j]? = some u → w.cell? ⟨g, off + i * k + j, none⟩ = some u := by
  obtain ⟨g, off, hA, hg, hc⟩ := h.at_ hi
  refine ⟨g, off, hA, hg, fun j u hu => ?_⟩
  have hj : j < k := by
    rcases Nat.lt_or_ge j k with h0 | h0
    · exact h0
    · rw [List.getElem?_eq_none (by rw [hk]; omega)] at hu; cases hu
  rw [Nat.add_assoc]
  exact hc _ u (by rw [flat_get f k hk l i j hj, List.getElem?_eq_getElem hi]; exact hu)
/-- The cells vs laid over cs from place o on. -/
def putAll (cs : Array Value) : Nat → List Value → Array Value
  | _, [] => cs
  | o, v :: r => putAll (cs.setIfInBounds o v) (o + 1) r
theorem putAll_size : ∀ (vs : List Value) (cs : Array Value) (o : Nat), (putAll cs o vs).size = cs.size
  | [], cs, o => rfl
  | v :: r, cs, o => by rw [putAll, putAll_size r]; simp
theorem putAll_get : ∀ (vs : List Value) (cs : Array Value) (o j : Nat), o + vs.length ≤ cs.size → (putAll cs o vs)[j]? = if o ≤ j ∧ j < o + vs.length then vs[j - o]? else cs[j]?
  | [], cs, o, j, _ => by rw [putAll, if_neg (by simp only [List.length_nil]; omega)]
  | v :: r, cs, o, j, h => by
    rw [putAll, putAll_get r _ _ _ (by simp at h ⊢; omega)]
    simp only [List.length_cons] at h ⊢
    by_cases h1 : o + 1 ≤ j ∧ j < o + 1 + r.length
    · rw [if_pos h1, if_pos (by omega)]
      have : j - o = (j - (o + 1)) + 1 := by omega
      rw [this, List.getElem?_cons_succ]
    · rw [if_neg h1]
      by_cases h2 : j = o
      · subst h2
        rw [if_pos (by omega), Nat.sub_self, List.getElem?_cons_zero, Array.getElem?_setIfInBounds_self_of_lt (by omega)]
      · rw [if_neg (by omega), Array.getElem?_setIfInBounds_ne (by omega)]
/-- One element more is laid down. -/
theorem put_next {α : Type} {f : α → List Value} {k : Nat} (hk : ∀ x, (f x).length = k) {l : List α} {i : Nat} (hi : i < l.length) {cs : Array Value} (hs : cs.size = l.length * k) (h : ∀ j, j < i * k → cs[j]? = (l.flatMap f)[j]?) :
    ∀ j, j < (i + 1) * k → (putAll cs (i * k) (f l[i]))[j]? = (l.flatMap f)[j]? := by
  intro j hj
  have h1 : (i + 1) * k ≤ l.length * k := Nat.mul_le_mul_right _ hi
  rw [Nat.add_mul, Nat.one_mul] at hj h1
  rw [putAll_get _ _ _ _ (by rw [hk]; omega), hk]
  by_cases h2 : i * k ≤ j
  · rw [if_pos ⟨h2, hj⟩]
    have e : j = i * k + (j - i * k) := by omega
    rw [e, flat_get f k hk l i _ (by omega), List.getElem?_eq_getElem hi]
    simp
  · rw [if_neg (by omega)]
    exact h j (by omega)
/-- All elements are laid down. -/
theorem put_all {α : Type} {f : α → List Value} {k : Nat} (hk : ∀ x, (f x).length = k) {l : List α} {cs : Array Value} (hs : cs.size = l.length * k) (h : ∀ j, j < l.length * k → cs[j]? = (l.flatMap f)[j]?) : cs = (l.flatMap f).toArray := by
  apply Array.ext_getElem?
  intro j
  rcases Nat.lt_or_ge j (l.length * k) with h1 | h1
  · rw [h j h1]; simp
  · rw [Array.getElem?_eq_none (by omega), List.getElem?_toArray, List.getElem?_eq_none (by rw [flat_len f k hk]; omega)]
/-- A cell of a block that is known whole is there. -/
theorem Bk.some_ {w : World} {g : Nat} {t : TypeId} {cs : Array Value} (h : Bk w g t cs) {i : Nat} (hi : i < cs.size) : ∃ u, w.cell? ⟨g, i, none⟩ = some u :=
  ⟨cs[i], by rw [h.cell, Array.getElem?_eq_getElem hi]⟩
theorem Bk.readF {α : Type} {f : α → List Value} {k : Nat} (hk : ∀ x, (f x).length = k) {w : World} {g B : Nat} {t : TypeId} {l : List α} (h : Bk w g t (l.flatMap f).toArray) (hB : g < B) : Rd w B k (some ⟨g, 0, none⟩) l.length (l.flatMap f) := by
  have := h.rd (size := k) (n := l.length) (B := B) (by simp [flat_len f k hk]) hB
  simpa using this
end Go.Proofs.Ythgppfbepfgelaa
