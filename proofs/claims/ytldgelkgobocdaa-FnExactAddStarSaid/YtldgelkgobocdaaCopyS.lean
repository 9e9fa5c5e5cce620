/-
  Contracts: a copy of a list.
-/
import Derived.Test.YtldgelkgobocdaaFilt
import Derived.Test.YtldgelkgobocdaaRecS
import Derived.OwnWalk
import Derived.Laws.AppendOwn
import Derived.Outline
namespace Go.Proofs.Ytldgelkgobocdaa
open Go.RowKit
set_option linter.unusedVariables false
set_option linter.unusedSimpArgs false
theorem rd_newsS {w : World} {B k n : Nat} {ad : Addr} {xs : List Value} (h : Rd w B k (some ad) n xs) : ∀ j u, xs[j]? = some u → w.cell? (ad.add j) = some u := by
  intro j u hu
  rcases Nat.eq_zero_or_pos n with h0 | h0
  · have : xs = [] := List.eq_nil_of_length_eq_zero (by rw [h.1, h0, Nat.zero_mul])
    rw [this] at hu; simp at hu
  · obtain ⟨g, off, he, hg, hc⟩ := h.2 h0
    injection he with he
    subst he
    have hadd : (⟨g, off, none⟩ : Addr).add j = ⟨g, off + j, none⟩ := by unfold Addr.add; split <;> simp_all
    rw [hadd]
    exact hc j u hu
theorem oneS {l : List StarT} : ∀ u ∈ l.flatMap StarT.cells, u.oneCell' = true := by
  intro u hu
  rw [List.mem_flatMap] at hu
  obtain ⟨x, _, hx⟩ := hu
  simp only [StarT.cells, List.mem_cons, List.not_mem_nil, or_false] at hx
  rcases hx with rfl | rfl | rfl | rfl | rfl <;> rfl
set_option maxHeartbeats 1000000 in
set_option maxRecDepth 100000 in
theorem copyOfStar_any (ad : Addr) (c : Nat) (l : List StarT) (w : World) (hn : l.length ≤ 1048576) (hr : Rd w w.heap.size 5 (some ad) l.length (l.flatMap StarT.cells)) :
    Calls Try.prog 134 #[.slice (some ad) l.length c] w fun e w' => ∃ A' c', e = .returned (.slice A' l.length c') ∧ Own w' w.heap.size 85 5 A' l.length c' (l.flatMap StarT.cells) ∧ Below w.heap.size w w' := by
  obtain ⟨i0, hi, hz0, hz1, hz2⟩ := info_parts info_Star
  have HR := hide ((hr.below (Below.alloc (Below.refl w.heap.size w) (Nat.le_refl _) (.cells #[] 85))).more (B' := (w.alloc (.cells #[] 85)).heap.size) (by simp))
  clear hr
  go_enter Try.func134, Try.ntmps134
  go_wp2_with (at_builtin; refine wpList_append_own _ rfl _ _ 33 rfl w.heap.size 85 i0 (.agg #[.string ⟨#[]⟩, .int .i64 0, .int .i64 0, .int .i64 0, .int .i64 0]) 5 48 Try.underlying33 hi hz0 hz1 hz2 rfl (by decide) _ _ _ rfl (Own.empty_ w 85 5 (Nat.le_refl _)) ad l.length c (l.flatMap StarT.cells) rfl (by rw [flat_len StarT.cells 5 StarT.cells_len]) (rd_newsS HR.out) oneS (by unfold maxLen; omega) (by omega) (by simp) ?_)
  intro v' w1 hown hgrow _
  obtain ⟨A', c', rfl, hown⟩ := own_cases hown
  have HX := hide (And.intro hown hgrow)
  clear hown hgrow
  go_wp2
  go_ret
  exact ⟨A', c', rfl, HX.out.1, ((Below.refl _ _).alloc (Nat.le_refl _) _).grown HX.out.2 (by simp) (fun j hj => by simp [Value.ownBlock] at hj; omega)⟩
theorem copyS_end : True := trivial
end Go.Proofs.Ytldgelkgobocdaa
