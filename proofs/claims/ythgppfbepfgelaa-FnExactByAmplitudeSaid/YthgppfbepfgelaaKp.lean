/-
  Words for a region that calls functions which make memory: what was made lies above, and some cells are known. No program.
-/
import Derived.Test.YthgppfbepfgelaaMem2
namespace Go.Proofs.Ythgppfbepfgelaa
open Go.RowKit
structure Kp (w : World) (S : List (Addr × Value)) (cw : World) : Prop where
  b : Below w.heap.size w cw
  c : ∀ p ∈ S, cw.cell? p.1 = some p.2 ∧ p.1.block < cw.heap.size
section
variable {w cw cw' : World} {S : List (Addr × Value)} {p : Addr} {v : Value} {a0 a1 a2 a3 a4 a5 a6 a7 a8 a9 a10 a11 a12 a13 a14 : Addr × Value}
theorem Kp.below (h : Kp w S cw) (hb : Below cw.heap.size cw cw') : Kp w S cw' :=
  ⟨h.b.trans (hb.mono h.b.size), fun p hp => ⟨(hb.cell (p := p.1) (h.c p hp).2).trans (h.c p hp).1, by have := (h.c p hp).2; have := hb.size; omega⟩⟩
theorem Kp.drew (h : Kp w S cw) : Kp w S cw.drew := ⟨h.b.drew, h.c⟩
theorem Kp.at0 (h : Kp w ((p, v) :: S) cw) : cw.cell? p = some v := (h.c (p, v) (by simp)).1
theorem Kp.at1 (h : Kp w (a0 :: (p, v) :: S) cw) : cw.cell? p = some v := (h.c (p, v) (by simp)).1
theorem Kp.at2 (h : Kp w (a0 :: a1 :: (p, v) :: S) cw) : cw.cell? p = some v := (h.c (p, v) (by simp)).1
theorem Kp.at3 (h : Kp w (a0 :: a1 :: a2 :: (p, v) :: S) cw) : cw.cell? p = some v := (h.c (p, v) (by simp)).1
theorem Kp.at4 (h : Kp w (a0 :: a1 :: a2 :: a3 :: (p, v) :: S) cw) : cw.cell? p = some v := (h.c (p, v) (by simp)).1
theorem Kp.at5 (h : Kp w (a0 :: a1 :: a2 :: a3 :: a4 :: (p, v) :: S) cw) : cw.cell? p = some v := (h.c (p, v) (by simp)).1
theorem Kp.at6 (h : Kp w (a0 :: a1 :: a2 :: a3 :: a4 :: a5 :: (p, v) :: S) cw) : cw.cell? p = some v := (h.c (p, v) (by simp)).1
theorem Kp.at7 (h : Kp w (a0 :: a1 :: a2 :: a3 :: a4 :: a5 :: a6 :: (p, v) :: S) cw) : cw.cell? p = some v := (h.c (p, v) (by simp)).1
theorem Kp.at8 (h : Kp w (a0 :: a1 :: a2 :: a3 :: a4 :: a5 :: a6 :: a7 :: (p, v) :: S) cw) : cw.cell? p = some v := (h.c (p, v) (by simp)).1
theorem Kp.at9 (h : Kp w (a0 :: a1 :: a2 :: a3 :: a4 :: a5 :: a6 :: a7 :: a8 :: (p, v) :: S) cw) : cw.cell? p = some v := (h.c (p, v) (by simp)).1
theorem Kp.at10 (h : Kp w (a0 :: a1 :: a2 :: a3 :: a4 :: a5 :: a6 :: a7 :: a8 :: a9 :: (p, v) :: S) cw) : cw.cell? p = some v := (h.c (p, v) (by simp)).1
theorem Kp.at11 (h : Kp w (a0 :: a1 :: a2 :: a3 :: a4 :: a5 :: a6 :: a7 :: a8 :: a9 :: a10 :: (p, v) :: S) cw) : cw.cell? p = some v := (h.c (p, v) (by simp)).1
theorem Kp.at12 (h : Kp w (a0 :: a1 :: a2 :: a3 :: a4 :: a5 :: a6 :: a7 :: a8 :: a9 :: a10 :: a11 :: (p, v) :: S) cw) : cw.cell? p = some v := (h.c (p, v) (by simp)).1
theorem Kp.at13 (h : Kp w (a0 :: a1 :: a2 :: a3 :: a4 :: a5 :: a6 :: a7 :: a8 :: a9 :: a10 :: a11 :: a12 :: (p, v) :: S) cw) : cw.cell? p = some v := (h.c (p, v) (by simp)).1
theorem Kp.at14 (h : Kp w (a0 :: a1 :: a2 :: a3 :: a4 :: a5 :: a6 :: a7 :: a8 :: a9 :: a10 :: a11 :: a12 :: a13 :: (p, v) :: S) cw) : cw.cell? p = some v := (h.c (p, v) (by simp)).1
end
end Go.Proofs.Ythgppfbepfgelaa
