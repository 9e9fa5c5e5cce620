/-
  Contracts: the comparison of two stars by their amplitudes; the row of numbers that is sorted.
-/
import Derived.Test.YthgppfbepfgelaaAmpP
import Derived.Test.YthgppfbepfgelaaValS
import Derived.Test.YthgppfbepfgelaaFilt
import Derived.Test.YthgppfbepfgelaaKp
import Derived.Test.YthgppfbepfgelaaCut
import Derived.Deep.QuietTactic
import Derived.BigQuiet
import Derived.BigRegion
import Derived.OwnWalk
import Derived.Laws.AppendOwn
import Derived.Outline
namespace Go.Proofs.Ythgppfbepfgelaa
open Go.RowKit Pl Go.Sort
set_option linter.unusedVariables false
set_option linter.unusedSimpArgs false
/-- The key of star number x: the bright magnitude less the faint one. -/
def keyS (l : List StarT) (x : Int) : Int := match l[x.toNat]? with | some s => s.bri - s.fai | none => 0
theorem keyS_at {l : List StarT} {q : Nat} (h : q < l.length) : keyS l (q : Int) = l[q].bri - l[q].fai := by
  unfold keyS
  rw [Int.toNat_natCast, List.getElem?_eq_getElem h]
def KOk (l : List StarT) : Prop := ∀ i (h : i < l.length), -2000 ≤ l[i].bri ∧ l[i].bri ≤ 20000 ∧ -2000 ≤ l[i].fai ∧ l[i].fai ≤ 20000
/-- What the comparison finds: the box of the key's function, the box of the list, the stars. -/
structure Finds (w : World) (lo gb gl : Nat) (A : Option Addr) (c : Nat) (l : List StarT) : Prop where
  lb : gb < lo
  ll : gl < lo
  b : w.cell? ⟨gb, 0, none⟩ = some (.func (.func 19) #[] #[.pointer (some ⟨gl, 0, none⟩)])
  fl : w.cell? ⟨gl, 0, none⟩ = some (.slice A l.length c)
  r : Rd w lo 5 A l.length (l.flatMap StarT.cells)
theorem Finds.below {w w' : World} {lo gb gl : Nat} {A : Option Addr} {c : Nat} {l : List StarT} (h : Finds w lo gb gl A c l) (hb : Below lo w w') : Finds w' lo gb gl A c l :=
  ⟨h.lb, h.ll, (hb.cell (p := ⟨gb, 0, none⟩) h.lb).trans h.b, (hb.cell (p := ⟨gl, 0, none⟩) h.ll).trans h.fl, h.r.below hb⟩
theorem Finds.drewN {w : World} {lo gb gl : Nat} {A : Option Addr} {c : Nat} {l : List StarT} (h : Finds w lo gb gl A c l) (n : Nat) : Finds (w.drewN n) lo gb gl A c l := ⟨h.lb, h.ll, h.b, h.fl, h.r⟩
theorem amp1_any (A : Option Addr) (c : Nat) (l : List StarT) (lo gb gl q : Nat) (w : World) (hK : KOk l) (hq : q < l.length) (H : Finds w lo gb gl A c l) :
    Calls Try.prog 19 #[.int .i64 q, .pointer (some ⟨gl, 0, none⟩)] w fun e w' => e = .returned (.int .i64 (keyS l q)) ∧ ∃ m, w' = w.drewN m := by
  obtain ⟨g, off, rfl, hg, hc⟩ := H.r.elem StarT.cells_len hq
  have f3 := hc 3 _ rfl
  have f4 := hc 4 _ rfl
  have fl := H.fl
  have i1 : (0 : Int) ≤ (q : Int) := by omega
  have i2 : (q : Int) < (l.length : Int) := by omega
  obtain ⟨k1, k2, k3, k4⟩ := hK q hq
  have hw : IntKind.i64.wrap (l[q].bri - l[q].fai) = l[q].bri - l[q].fai := by rw [IntKind.wrap_i64]; omega
  rw [keyS_at hq]
  clear hc H hK
  go_enter Try.func19, Try.ntmps19
  go_wp2_with fail
  go_quiet (fail)
  go_wp2
  go_ret
  exact ⟨rfl, _, rfl⟩
theorem cmp_any (A : Option Addr) (c : Nat) (l : List StarT) (lo gb gl q p : Nat) (w : World) (hK : KOk l) (hq : q < l.length) (hp : p < l.length) (H : Finds w lo gb gl A c l) :
    Calls Try.prog 29 #[.int .i64 q, .int .i64 p, .pointer (some ⟨gb, 0, none⟩)] w fun e w' => e = .returned (.int .i64 (cfk (keyS l) q p)) ∧ ∃ m, w' = w.drewN m := by
  have hq1 := hide (fun N => amp1_any A c l lo gb gl q (w.drewN N) hK hq (H.drewN N))
  have hp1 := hide (fun N => amp1_any A c l lo gb gl p (w.drewN N) hK hp (H.drewN N))
  have fb := H.b
  clear H
  obtain ⟨x, hx⟩ : ∃ x, x = keyS l q := ⟨_, rfl⟩
  obtain ⟨y, hy⟩ : ∃ y, y = keyS l p := ⟨_, rfl⟩
  rw [show cfk (keyS l) q p = if x = y then 0 else if x < y then -1 else 1 by rw [hx, hy]; rfl]
  rw [← hx] at hq1
  rw [← hy] at hp1
  clear hx hy
  by_cases h1 : x = y
  · have d1 : (x != y) = false := by simp [h1]
    have e1 : decide (x = y) = true := by simp [h1]
    rw [if_pos h1]
    clear h1
    go_enter Try.func29, Try.ntmps29
    go_wp2_with fail
    go_quiet ((go_at_call 19; with_reducible first | exact Calls.quiet_of (hq1.out _) | exact Calls.quiet_of (hp1.out _) | exact qadd_ex (hq1.out _) | exact qadd_ex (hp1.out _)))
    go_wp2
    go_ret
    exact ⟨rfl, _, rfl⟩
  · have d1 : (x != y) = true := by simp [h1]
    have e1 : decide (x = y) = false := by simp [h1]
    rw [if_neg h1]
    clear h1
    by_cases h2 : x < y
    · rw [if_pos h2]
      go_enter Try.func29, Try.ntmps29
      go_wp2_with fail
      go_quiet ((go_at_call 19; with_reducible first | exact Calls.quiet_of (hq1.out _) | exact Calls.quiet_of (hp1.out _) | exact qadd_ex (hq1.out _) | exact qadd_ex (hp1.out _)))
      go_wp2
      go_ret
      exact ⟨rfl, _, rfl⟩
    · rw [if_neg h2]
      go_enter Try.func29, Try.ntmps29
      go_wp2_with fail
      go_quiet ((go_at_call 19; with_reducible first | exact Calls.quiet_of (hq1.out _) | exact Calls.quiet_of (hp1.out _) | exact qadd_ex (hq1.out _) | exact qadd_ex (hp1.out _)))
      go_wp2
      go_ret
      exact ⟨rfl, _, rfl⟩
theorem ampA_end : True := trivial
end Go.Proofs.Ythgppfbepfgelaa
