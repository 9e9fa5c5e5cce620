/-
  Words for an element put into a list: where it goes, plain; rows whose middle is written anew. No program.
-/
import Derived.Test.YtldgelkgobocdaaFilt
import Derived.Test.YtldgelkgobocdaaPlB
import Derived.Shelf.Spec.SlicesInsertGrow
import Derived.Laws.CopyRow
import Derived.Laws.AppendOwn
namespace Go.Proofs.Ytldgelkgobocdaa
open Go.RowKit Pl
set_option linter.unusedVariables false
set_option linter.unusedSimpArgs false
theorem bl_trans : ∀ x y z : List UInt8, Op.bytesLess x y = true → Op.bytesLess y z = true → Op.bytesLess x z = true
  | _, [], _, h, _ => by cases ‹List UInt8› <;> simp [Op.bytesLess] at h
  | _, _ :: _, [], _, h => by simp [Op.bytesLess] at h
  | [], _ :: _, _ :: _, _, _ => by simp [Op.bytesLess]
  | a :: x, b :: y, c :: z, h1, h2 => by
    simp only [Op.bytesLess, Bool.or_eq_true, decide_eq_true_eq, Bool.and_eq_true, beq_iff_eq] at *
    rcases h1 with h1 | ⟨rfl, h1⟩ <;> rcases h2 with h2 | ⟨rfl, h2⟩
    · exact .inl (UInt8.lt_trans h1 h2)
    · exact .inl h1
    · exact .inl h2
    · exact .inr ⟨rfl, bl_trans x y z h1 h2⟩
theorem bl_irrefl : ∀ x : List UInt8, Op.bytesLess x x = false
  | [] => rfl
  | a :: x => by simp [Op.bytesLess, bl_irrefl x]
theorem tw_len {α : Type} {p : α → Bool} : ∀ (l : List α) (k : Nat), k ≤ l.length → (∀ j (h : j < l.length), j < k → p l[j] = true) → (∀ h : k < l.length, p l[k] = false) → (l.takeWhile p).length = k
  | [], k, hk, _, _ => by simp at hk; simp [hk]
  | x :: l, 0, _, _, h2 => by
    have := h2 (by simp)
    simp at this
    simp [this]
  | x :: l, k + 1, hk, h1, h2 => by
    have h0 := h1 0 (by simp) (by omega)
    simp at h0
    have ih := tw_len l k (by simp at hk; omega) (fun j h hj => by have := h1 (j + 1) (by simp; omega) (by omega); simpa using this) (fun h => by have := h2 (by simp; omega); simpa using this)
    simp [h0, ih]
section
variable {α : Type} {nm : α → List UInt8} {l : List α} {s : List UInt8}
/-- Where s goes: behind all whose names are less. -/
def insP (nm : α → List UInt8) (l : List α) (s : List UInt8) : Nat := (l.takeWhile fun y => Op.bytesLess (nm y) s).length
def insL (l : List α) (k : Nat) (x : α) : List α := l.take k ++ x :: l.drop k
theorem insP_le : insP nm l s ≤ l.length := (List.takeWhile_prefix _).length_le
theorem insL_len {k : Nat} (h : k ≤ l.length) {x : α} : (insL l k x).length = l.length + 1 := by simp [insL]; omega
def Up (nm : α → List UInt8) (l : List α) : Prop := ∀ j (h : j + 1 < l.length), Op.bytesLess (nm (l[j]'(by omega))) (nm l[j + 1]) = true
theorem Up.lt (h : Up nm l) : ∀ (d i : Nat) (hj : i + d + 1 < l.length), Op.bytesLess (nm (l[i]'(by omega))) (nm l[i + d + 1]) = true
  | 0, i, hj => h i hj
  | d + 1, i, hj => bl_trans _ _ _ (h.lt d i (by omega)) (h (i + d + 1) hj)
theorem insP_up {k : Nat} (hk : k ≤ l.length) (h1 : ∀ j (h : j < l.length), j < k → Op.bytesLess (nm l[j]) s = true) (h2 : ∀ h : k < l.length, Op.bytesLess (nm l[k]) s = false) : k = insP nm l s := (tw_len l k hk h1 h2).symm
theorem insP_down (hu : Up nm l) {k : Nat} (hk : k ≤ l.length) (h1 : ∀ j (h : j < l.length), k ≤ j → Op.bytesLess (nm l[j]) s = false) (h2 : ∀ (h : k - 1 < l.length), 0 < k → Op.bytesLess (nm l[k - 1]) s = true) : k = insP nm l s := by
  refine insP_up hk (fun j h hj => ?_) (fun h => h1 k h (Nat.le_refl _))
  have hb := h2 (by omega) (by omega)
  rcases Nat.lt_or_ge j (k - 1) with h0 | h0
  · obtain ⟨d, hd⟩ : ∃ d, k - 1 = j + d + 1 := ⟨k - 1 - j - 1, by omega⟩
    have h3 := hu.lt d j (by omega)
    simp only [hd] at hb
    exact bl_trans _ _ _ h3 hb
  · have e : j = k - 1 := by omega
    subst e
    exact hb
end
theorem valid_len {α : Type} {ok : α → Bool} {lt : α → α → Bool} {most : Nat} {l : List α} (h : validB ok lt most l = true) : l.length ≤ most := by
  unfold validB at h
  rw [Bool.and_eq_true] at h
  simpa using h.1
theorem valid_lt {α : Type} {ok : α → Bool} {lt : α → α → Bool} {most : Nat} {l : List α} (h : validB ok lt most l = true) (j : Nat) (hj : j + 1 < l.length) : lt l[j] l[j + 1] = true := by
  unfold validB at h
  rw [Bool.and_eq_true, List.all_eq_true] at h
  have k := h.2 (j + 1) (by simp; omega)
  rw [step_succ hj, Bool.and_eq_true] at k
  exact k.2
/-- 'copy' onto a row of cells, elements of k cells. -/
theorem run_copy_K {P : Program} (k : Nat) (w : World) (dT sT ty elem : TypeId) (g o dLen dCap : Nat) (a : Addr) (sLen sCap m : Nat) (cur : Array Value) (t : TypeId) (cs : List Value)
    (hu : P.underlying dT = some (.slice elem)) (hs : (P.info? elem).map (·.size) = some k) (hg : Bk w g t cur) (hm : Nat.min sLen dLen = m) (hn : cs.length = m * k)
    (hsrc : ∀ j v, cs[j]? = some v → w.cell? (a.add j) = some v) (hfit : o + cs.length ≤ cur.size) (h1 : ∀ v ∈ cs, v.oneCell' = true) :
    (Builtin.copy_ #[dT, sT] ty #[.slice (some ⟨g, o, none⟩) dLen dCap, .slice (some a) sLen sCap]).run P w =
      .ok (goInt m) (w.setRow g (cur.toList.take o ++ cs ++ cur.toList.drop (o + cs.length)).toArray) := by
  have hl := run_loadCells_list (P := P) w a cs hsrc
  have hst := run_storeCells_at P g o t cs 0 cur w hg (by simpa using hfit) h1
  subst hm
  cases hq : P.info? elem with
  | none => simp [hq] at hs
  | some i =>
    have hi : i.size = k := by simpa [hq] using hs
    simp [Builtin.copy_, run_underlying hu, Builtin.lenOf, Builtin.firstCells, sizeOf, typeInfo, hq, hi, ← hn, hl, hst]
section
variable {w : World} {g : Nat} {t : TypeId} {cs : Array Value}
theorem Bk.row (h : Bk w g t cs) (cs' : Array Value) : Bk (w.setRow g cs') g t cs' := setRow_heap w g cs cs' t (0, 0) h
theorem Bk.row_far (h : Bk w g t cs) {g' : Nat} (hne : g ≠ g') (cs' : Array Value) : Bk (w.setRow g' cs') g t cs := (setRow_other w g' g cs' hne).trans h
theorem grown_setRow (w : World) (g : Nat) (cs : Array Value) : w.grownBy (w.setRow g cs) (some g) := ⟨rfl, rfl, rfl, by simp, fun j _ hne => setRow_other w g j cs (fun e => hne (by rw [e]))⟩
theorem Bk.shape (h : Bk w g t cs) : w.shape? g = some (t, cs.size) := by
  unfold Bk at h
  simp [World.shape?, h]
end
section
variable {α : Type} {f : α → List Value} {k : Nat}
/-- The row, once an element has been laid into it. -/
def insRow (cur : Array Value) (a k m : Nat) (xs ys : List Value) : Array Value :=
  ((((cur.toList.take (a + k) ++ ys ++ cur.toList.drop (a + k + ys.length)).toArray).toList.take a ++ xs ++ ((cur.toList.take (a + k) ++ ys ++ cur.toList.drop (a + k + ys.length)).toArray).toList.drop (a + xs.length)).toArray)
theorem ins_size {cur : Array Value} {o : Nat} {ys : List Value} (h : o + ys.length ≤ cur.size) : (cur.toList.take o ++ ys ++ cur.toList.drop (o + ys.length)).toArray.size = cur.size := by
  simp
  omega
/-- First what stood from a on is moved up, then the element is laid down. -/
theorem ins_down {cur : Array Value} {a b : Nat} {P xs ys : List Value} (hP : cur.toList.take a = P) (hl : P.length = a) (hb : xs.length = b) (hfit : a + b + ys.length ≤ cur.size) :
    (((cur.toList.take (a + b) ++ ys ++ cur.toList.drop (a + b + ys.length)).toArray.toList.take a ++ xs ++ (cur.toList.take (a + b) ++ ys ++ cur.toList.drop (a + b + ys.length)).toArray.toList.drop (a + xs.length)).toArray).toList.take (a + b + ys.length) = P ++ xs ++ ys := by
  have e1 : (cur.toList.take (a + b)).length = a + b := by simp; omega
  have e2 : (cur.toList.take (a + b) ++ ys ++ cur.toList.drop (a + b + ys.length)).take a = P := by
    rw [List.append_assoc, List.take_append_of_le_length (by omega), List.take_take, Nat.min_eq_left (by omega), hP]
  have e3 : (cur.toList.take (a + b) ++ ys ++ cur.toList.drop (a + b + ys.length)).drop (a + b) = ys ++ cur.toList.drop (a + b + ys.length) := by
    rw [List.append_assoc, List.drop_append_of_le_length (by omega), List.drop_of_length_le (by omega), List.nil_append]
  simp only [hb]
  rw [e2, e3]
  rw [show P ++ xs ++ (ys ++ cur.toList.drop (a + b + ys.length)) = (P ++ xs ++ ys) ++ cur.toList.drop (a + b + ys.length) by simp]
  exact List.take_left' (by simp; omega)
/-- First the element, then what stood from a on. -/
theorem ins_up {cur : Array Value} {a b : Nat} {P xs ys : List Value} (hP : cur.toList.take a = P) (hl : P.length = a) (hb : xs.length = b) (hfit : a + b + ys.length ≤ cur.size) :
    (((cur.toList.take a ++ xs ++ cur.toList.drop (a + xs.length)).toArray.toList.take (a + b) ++ ys ++ (cur.toList.take a ++ xs ++ cur.toList.drop (a + xs.length)).toArray.toList.drop (a + b + ys.length)).toArray).toList.take (a + b + ys.length) = P ++ xs ++ ys := by
  rw [hP]
  have e2 : (P ++ xs ++ cur.toList.drop (a + xs.length)).take (a + b) = P ++ xs := List.take_left' (by simp; omega)
  simp only [hb] at e2 ⊢
  rw [e2]
  exact List.take_left' (by simp; omega)
theorem insL_flat {l : List α} {i : Nat} {x : α} : (l.take i).flatMap f ++ f x ++ (l.drop i).flatMap f = (insL l i x).flatMap f := by simp [insL]
theorem flat_take (hk : ∀ x, (f x).length = k) : ∀ (l : List α) (i : Nat), (l.flatMap f).take (i * k) = (l.take i).flatMap f
  | [], i => by simp
  | x :: l, 0 => by simp
  | x :: l, i + 1 => by
    have e : (i + 1) * k = (f x).length + i * k := by rw [hk, Nat.add_mul]; omega
    rw [List.flatMap_cons, e, List.take_length_add_append, flat_take hk l i]
    simp
theorem flat_drop (hk : ∀ x, (f x).length = k) : ∀ (l : List α) (i : Nat), (l.flatMap f).drop (i * k) = (l.drop i).flatMap f
  | [], i => by simp
  | x :: l, 0 => by simp
  | x :: l, i + 1 => by
    have e : (i + 1) * k = (f x).length + i * k := by rw [hk, Nat.add_mul]; omega
    rw [List.flatMap_cons, e, List.drop_length_add_append, flat_drop hk l i]
    simp
end
end Go.Proofs.Ytldgelkgobocdaa
