/-
  Contracts: a text that is split in two, by the specification and by the library.
-/
import Derived.Test.YtdplmbndafmlgaaDoorSpA
import Derived.Test.YtdplmbndafmlgaaDoorRdB
import Derived.Test.YtdplmbndafmlgaaDoorRdE
import Derived.Test.YtdplmbndafmlgaaDoorShC
import Derived.Deep.QuietTactic
import Derived.BigQuiet
namespace Go.Proofs.YtdplmbndafmlgaaDoor
open Go.RowKit Pl
set_option linter.unusedVariables false
set_option linter.unusedSimpArgs false
/-- The library's own variable holds some number. -/
def Mx (w : World) : Prop := ∃ m, w.cell? ⟨3, 0, none⟩ = some (.int .i64 m)
theorem cell_lt {w : World} {p : Addr} {v : Value} (h : w.cell? p = some v) : p.block < w.heap.size := by
  rcases Nat.lt_or_ge p.block w.heap.size with h' | h'
  · exact h'
  · unfold World.cell? at h
    rw [Array.getElem?_eq_none h'] at h
    simp at h
theorem Mx.below {w w' : World} (h : Mx w) (hb : Below w.heap.size w w') : Mx w' := by
  obtain ⟨m, h⟩ := h
  exact ⟨m, (hb.cell (cell_lt h)).trans h⟩
theorem cut_any (l : List UInt8) (c : UInt8) (hl : l.length ≤ 1048577) (w : World) (X : Mx w) :
    Calls Tryd.prog 78 #[.string ⟨l.toArray⟩, .string ⟨#[c]⟩] w fun e w' => e = .returned (.tuple #[.string ⟨(Lib.cut l [c]).1.toArray⟩, .string ⟨(Lib.cut l [c]).2.1.toArray⟩, .bool (Lib.cut l [c]).2.2]) ∧ Below w.heap.size w w' := by
  obtain ⟨m, hm⟩ := X
  refine (Tryd.strings_Cut ⟨l.toArray⟩ ⟨#[c]⟩ m w (by show l.length < 4294967281; omega) hm).mono ?_
  rintro e w' ⟨rfl, n, rfl⟩
  exact ⟨rfl, below_drewN (Below.refl _ _) n⟩
theorem cutAt (c : UInt8) {l a b : List UInt8} {f : Bool} (h : Lib.cut l [c] = (a, b, f)) (hl : l.length ≤ 1048577) (w : World) (X : Mx w) :
    Calls Tryd.prog 78 #[.string ⟨l.toArray⟩, .string ⟨#[c]⟩] w fun e w' => e = .returned (.tuple #[.string ⟨a.toArray⟩, .string ⟨b.toArray⟩, .bool f]) ∧ Below w.heap.size w w' := by
  have k := cut_any l c hl w X
  rw [h] at k
  exact k
theorem l01Split_not2 (l : List UInt8) (c : UInt8) (n : Int) (hn : (c.toNat : Int) = n) (hl : l.length ≤ 1048577) (h : ¬ (spl c l).length = 2) (w : World) :
    Calls Tryd.prog 71 #[.string ⟨l.toArray⟩, .int .u8 n] w fun e w' => ∃ A' m c', e = .returned (.slice A' m c') ∧ ((m : Int) != 2) = true ∧ Below w.heap.size w w' := by
  subst hn
  refine (l01Split_any l c hl w).mono ?_
  rintro e w' ⟨A', c', rfl, _, hb⟩
  have h2 : ¬ ((spl c l).length : Int) = 2 := by omega
  exact ⟨A', _, c', rfl, by simpa using h2, hb⟩
theorem l01Split_two (l a b : List UInt8) (c : UInt8) (n : Int) (hn : (c.toNat : Int) = n) (hl : l.length ≤ 1048577) (h : spl c l = [a, b]) (w : World) :
    Calls Tryd.prog 71 #[.string ⟨l.toArray⟩, .int .u8 n] w fun e w' => ∃ g c', e = .returned (.slice (some ⟨g, 0, none⟩) 2 c') ∧ g < w'.heap.size ∧ w'.cell? ⟨g, 0, none⟩ = some (.string ⟨a.toArray⟩) ∧ w'.cell? ⟨g, 1, none⟩ = some (.string ⟨b.toArray⟩) ∧ Below w.heap.size w w' := by
  subst hn
  have k := l01Split_any l c hl w
  rw [h] at k
  refine k.mono ?_
  rintro e w' ⟨A', c', rfl, ho, hb⟩
  obtain ⟨_, hr⟩ := ho.rd
  obtain ⟨g, off, e1, hg, hc⟩ := hr (by simp)
  obtain ⟨_, _, _, hp⟩ := ho.parts
  rcases hp with ⟨e2, h2, _⟩ | ⟨g', cur, e2, _⟩
  · simp at h2
  · rw [e2] at e1
    injection e1 with e1
    injection e1 with e1 e3 _
    subst e1 e3
    exact ⟨g', c', by rw [e2]; rfl, hg, hc 0 _ rfl, hc 1 _ rfl, hb⟩
theorem resD_itoa {l : List UInt8} (h : (resD l).2 = true) : Lib.itoa (resD l).1 = l := by
  cases hr : readD l with
  | none => rw [resD, hr] at h; cases h
  | some n =>
    rw [resD, hr]
    show Lib.itoa n = l
    unfold readD at hr
    split at hr
    · split at hr
      · split at hr
        · rename_i e
          have e2 := Option.some.inj hr
          rw [← e2]
          exact e
        · cases hr
      · cases hr
    · cases hr
theorem qadd_exR {P : Program} {f : FuncId} {args : Array Value} {w : World} {b n : Nat} {v : Value} (h : Calls P f args (w.drewN (b + n)) fun e w' => e = .returned v ∧ ∃ m, w' = (w.drewN (b + n)).drewN m) : Calls P f args (w.drewN (b + n)) fun e w' => e = .returned v ∧ ∃ m, w' = w.drewN (b + m) := by
  refine h.mono ?_
  rintro e w' ⟨he, m, rfl⟩
  exact ⟨he, n + m, by rw [World.drewN_drewN, Nat.add_assoc]⟩
theorem impl_ReadDecimal_bit {l : List UInt8} {x : Int} {y : Bool} (h : resD l = (x, y)) (hl : l.length ≤ 1048577) (w : World) (T : Tab w) (S : Sen w) :
    Calls Tryd.prog 41 #[.string ⟨l.toArray⟩] w fun e w' => e = .returned (.tuple #[.int .i64 x, .bool y]) ∧ Below w.heap.size w w' := by
  have k := impl_ReadDecimal_any l hl w T S
  rw [h] at k
  exact k
theorem l01Number_bit {l : List UInt8} {x : Int} {y : Bool} (h : resD l = (x, y)) (hl : l.length ≤ 1048577) (w : World) :
    Calls Tryd.prog 74 #[.string ⟨l.toArray⟩] w fun e w' => e = .returned (.tuple #[.int .i64 x, .bool y]) ∧ Below w.heap.size w w' := by
  have k := l01Number_any l hl w
  rw [h] at k
  exact k
theorem rta_end : True := trivial
end Go.Proofs.YtdplmbndafmlgaaDoor
