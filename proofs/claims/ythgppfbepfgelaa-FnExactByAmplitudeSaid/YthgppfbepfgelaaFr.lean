/-
  How an argument that can be read lies in memory: integers, strings, records by value, slices of integers and of records.
-/
import Derived.Test.YthgppfbepfgelaaRows
import Derived.Test.YthgppfbepfgelaaTy
import Derived.Deep.Slices
import Derived.Deep.Fields
import Derived.ChangeSame
import Derived.Lib.SmallJoins
import Derived.OpenShut
import Derived.ShutString
import Derived.ChangeOld
namespace Go.Proofs.Ythgppfbepfgelaa
open Go.ChangeShapes Go.WideShapes Go.Deep Go.RowKit Go.Joins
set_option linter.unusedVariables false
set_option linter.unusedSimpArgs false
section
variable {H : Type} {enc : TypeId × Value → H} {P : Program} {w : World} {base : Nat} {spare : Nat → Bool} {held : Bool}
/-- The cells of a record that can be read, one cell a field: each has a reading of its own. -/
theorem parts_of {t : TypeId} {fs : Array Field} {fuel : Nat} {l : List Value} {x : DataW H × List MemPlace} (hs : P.underlying t = some (.struct fs)) (hone : oneCellFields P fs = true) (hC : P.cellsOf t = fs.size)
    (h : DataW.trod enc P w base spare held fuel t l = some x) :
    l.length = fs.size ∧ ∃ k, ∀ (j : Nat) (f : Field), fs[j]? = some f → ∃ v y, l[j]? = some v ∧ DataW.trod enc P w base spare held k f.type [v] = some y := by
  obtain ⟨ys, k, _, _, hl, hy, hf⟩ := DataW.trod_struct hs h
  refine ⟨hl.trans hC, k, fun j f hj => ?_⟩
  obtain ⟨e1, e2⟩ := hone_of hone j f hj
  have hlt : j < fs.size := (Array.getElem?_eq_some_iff.1 hj).1
  have hv : l[j]? = some (l[j]'(by omega)) := List.getElem?_eq_getElem _
  have hw : ys[j]? = some (ys[j]'(by omega)) := List.getElem?_eq_getElem _
  refine ⟨l[j]'(by omega), ys[j]'(by omega), hv, ?_⟩
  have h1 := hf j f hj
  rw [e1, e2, List.drop_eq_getElem_cons (by omega), hw] at h1
  exact h1
/-- A record by value. -/
theorem record_of {r : Reach} {b0 : Nat} {t : TypeId} {fs : Array Field} {v : Value} {d : DataW H} {p : List MemPlace} (hs : P.underlying t = some (.struct fs)) (hone : oneCellFields P fs = true) (hC : P.cellsOf t = fs.size)
    (hv : Value.okWide P w r b0 t v) (h : DataW.Trod enc P w base spare held t v d p) :
    ∃ l : List Value, v = .agg l.toArray ∧ l.length = fs.size ∧ ∃ k, ∀ (j : Nat) (f : Field), fs[j]? = some f → ∃ u y, l[j]? = some u ∧ DataW.trod enc P w base spare held k f.type [u] = some y := by
  obtain ⟨⟨l⟩, rfl, hsz⟩ := okWide_struct hs hv
  obtain ⟨fuel, hf⟩ := h
  obtain ⟨_, _, _, _, hl, _, _⟩ := DataW.trod_struct hs hf
  obtain ⟨h1, h2⟩ := parts_of hs hone hC hf
  exact ⟨l, rfl, by simpa using hsz.trans hC, by simpa [Value.cells] using h2⟩
/-- A slice of records. -/
theorem records_of {t e : TypeId} {fs : Array Field} {fuel : Nat} {A : Option Addr} {n c : Nat} {x : DataW H × List MemPlace} (ht : P.underlying t = some (.slice e)) (he : P.underlying e = some (.struct fs))
    (hone : oneCellFields P fs = true) (hC : P.cellsOf e = fs.size) (h : DataW.trod enc P w base (fun _ => true) held fuel t [.slice A n c] = some x) :
    (A = none ∧ n = 0 ∧ c = 0) ∨ ∃ a, A = some a ∧ n ≤ c ∧ c ≤ maxLen ∧ ∀ i, i < n → ∃ k, ∀ (j : Nat) (f : Field), fs[j]? = some f → ∃ v y, w.cell? (a.add (i * fs.size + j)) = some v ∧ DataW.trod enc P w base (fun _ => true) held k f.type [v] = some y := by
  rcases open_slice ht h with ⟨hcs, _⟩ | ⟨a, len, cap, m, k0, D, Pl, hcs, _, hl, hm, hmm, _, hi⟩
  · simp at hcs
    exact .inl hcs
  · simp at hcs
    obtain ⟨rfl, rfl, rfl⟩ := hcs
    refine .inr ⟨a, rfl, hl, hm, fun i hin => ?_⟩
    obtain ⟨cs', hc, ht'⟩ := hi i (by rw [hmm]; simp; omega)
    obtain ⟨_, _, hat⟩ := World.cells?_some hc
    obtain ⟨h1, k, h2⟩ := parts_of he hone hC ht'
    refine ⟨k, fun j f hj => ?_⟩
    obtain ⟨v, y, hv, hy⟩ := h2 j f hj
    have hlt : j < fs.size := (Array.getElem?_eq_some_iff.1 hj).1
    refine ⟨v, y, ?_, hy⟩
    rw [← hC, ← Go.Deep.add_add, hat j (by omega), hv]
theorem flat_ints : ∀ l : List Int, l.flatMap (fun x : Int => [Value.int .i64 x]) = ints l
  | [] => rfl
  | x :: l => by rw [List.flatMap_cons, flat_ints l]; rfl
theorem len2 {α : Type} {l : List α} (h : l.length = 2) : ∃ a b, l = [a, b] := by
  match l, h with
  | [a, b], _ => exact ⟨a, b, rfl⟩
theorem len3 {α : Type} {l : List α} (h : l.length = 3) : ∃ a b c, l = [a, b, c] := by
  match l, h with
  | [a, b, c], _ => exact ⟨a, b, c, rfl⟩
theorem len4 {α : Type} {l : List α} (h : l.length = 4) : ∃ a b c d, l = [a, b, c, d] := by
  match l, h with
  | [a, b, c, d], _ => exact ⟨a, b, c, d, rfl⟩
theorem len5 {α : Type} {l : List α} (h : l.length = 5) : ∃ a b c d e, l = [a, b, c, d, e] := by
  match l, h with
  | [a, b, c, d, e], _ => exact ⟨a, b, c, d, e, rfl⟩
theorem cell_lt {w : World} {a : Addr} {v : Value} (h : w.cell? a = some v) : a.block < w.heap.size := by
  rcases Nat.lt_or_ge a.block w.heap.size with hlt | hge
  · exact hlt
  · unfold World.cell? at h; rw [Array.getElem?_eq_none hge] at h; cases h
/-- A slice of integers that can be read. -/
theorem open_intsS {t e : TypeId} (ht : P.underlying t = some (.slice e)) (he : P.underlying e = some (.int .i64)) (hc : P.cellsOf e = 1) {A : Option Addr} {n c : Nat} {d : DataW H} {p : List MemPlace}
    (h : DataW.Trod enc P w 0 (fun _ => true) true t (.slice A n c) d p) : n ≤ c ∧ c ≤ maxLen ∧ ∃ z : List Int, z.length = n ∧ Rd w w.heap.size 1 A n (ints z) ∧ ∀ x ∈ z, okI x := by
  obtain ⟨fuel, hf⟩ := h
  rcases open_ints ht he hc hf with ⟨hcs, _⟩ | ⟨a, len, cap, zs, hcs, _, hl, hm, hz, _, hcell, hwz⟩
  · simp [Value.cells] at hcs
    obtain ⟨rfl, rfl, rfl⟩ := hcs
    exact ⟨by simp, by simp, [], rfl, Rd.nil_, by simp⟩
  · simp [Value.cells] at hcs
    obtain ⟨rfl, rfl, rfl⟩ := hcs
    simp at hz
    refine ⟨hl, hm, ?_⟩
    obtain ⟨l, h1, h2, h3⟩ := rd_of (w := w) (B := w.heap.size) (n := n) (k := 1) (a := a) (f := fun x : Int => [Value.int .i64 x]) (ok := okI) (fun _ => rfl) (by omega)
      (fun i hi => ⟨zs.getD i 0, by
        refine hwz _ ?_
        rw [List.getD_eq_getElem?_getD, List.getElem?_eq_getElem (show i < zs.length by omega)]
        exact List.getElem_mem _, fun j u hu => by
        match j, hu with
        | 0, hu => simp at hu; subst hu; simpa using hcell i (by omega)⟩) (fun v hv => cell_lt hv)
    refine ⟨l, h1, ?_, h3⟩
    rw [flat_ints] at h2
    exact h2
end
theorem open_StarS {H : Type} {enc : TypeId × Value → H} {W : World} {A : Option Addr} {n c : Nat} {d : DataW H} {p : List MemPlace} (h : DataW.Trod enc Try.prog W 0 (fun _ => true) true 22 (.slice A n c) d p) :
    n ≤ c ∧ c ≤ maxLen ∧ ∃ l : List StarT, l.length = n ∧ Rd W W.heap.size 5 A n (l.flatMap StarT.cells) ∧ ∀ x ∈ l, x.ok := by
  obtain ⟨fuel, hf⟩ := h
  rcases records_of Try.underlying22 Try.underlying36 (by kernel_rfl) (by kernel_rfl) hf with ⟨rfl, rfl, rfl⟩ | ⟨a, rfl, hl, hm, hi⟩
  · exact ⟨by simp, by simp, [], rfl, Rd.nil_, by simp⟩
  · refine ⟨hl, hm, rd_of StarT.cells_len (by omega) (fun i hin => ?_) (fun v hv => cell_lt hv)⟩
    obtain ⟨k, hf'⟩ := hi i hin
    obtain ⟨v0, y0, c0, t0⟩ := hf' 0 _ rfl
    obtain ⟨v1, y1, c1, t1⟩ := hf' 1 _ rfl
    obtain ⟨v2, y2, c2, t2⟩ := hf' 2 _ rfl
    obtain ⟨v3, y3, c3, t3⟩ := hf' 3 _ rfl
    obtain ⟨v4, y4, c4, t4⟩ := hf' 4 _ rfl
    obtain ⟨s0, e0, _, k0⟩ := DataW.trod_string Try.underlying9 t0
    obtain ⟨n1, e1, _, k1⟩ := DataW.trod_int Try.underlying2 t1
    obtain ⟨n2, e2, _, k2⟩ := DataW.trod_int Try.underlying2 t2
    obtain ⟨n3, e3, _, k3⟩ := DataW.trod_int Try.underlying2 t3
    obtain ⟨n4, e4, _, k4⟩ := DataW.trod_int Try.underlying2 t4
    simp at e0 e1 e2 e3 e4
    subst e0 e1 e2 e3 e4
    refine ⟨⟨s0, n1, n2, n3, n4⟩, ⟨k0, k1, k2, k3, k4⟩, fun j u hu => ?_⟩
    match j, hu with
    | 0, hu => simp [StarT.cells] at hu; subst hu; exact c0
    | 1, hu => simp [StarT.cells] at hu; subst hu; exact c1
    | 2, hu => simp [StarT.cells] at hu; subst hu; exact c2
    | 3, hu => simp [StarT.cells] at hu; subst hu; exact c3
    | 4, hu => simp [StarT.cells] at hu; subst hu; exact c4
theorem frame_end : True := trivial
end Go.Proofs.Ythgppfbepfgelaa
