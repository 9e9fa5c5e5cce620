/-
  Contract: an element put into a list of the call's own (slices.Insert at a record).
-/
import Derived.Test.YtldgelkgobocdaaInsK
import Derived.Test.YtldgelkgobocdaaRecS
import Derived.Test.YtldgelkgobocdaaCopyS
import Derived.Deep.RegionLaw
import Derived.Laws.CopyOwn
import Derived.Deep.QuietTactic
import Derived.BigQuiet
import Derived.Outline
namespace Go.Proofs.Ytldgelkgobocdaa
open Go.RowKit Pl
set_option linter.unusedVariables false
set_option linter.unusedSimpArgs false
theorem oneCS (x : StarT) : ∀ u ∈ StarT.cells x, u.oneCell' = true := fun u hu => oneS (l := [x]) u (by simpa using hu)
set_option maxHeartbeats 4000000 in
set_option maxRecDepth 100000 in
/-- At the end. -/
theorem InsS_end (lo vb : Nat) (A : Option Addr) (c : Nat) (l : List StarT) (x : StarT) (w : World) (hn : l.length ≤ 1000) (ho : Own w lo 85 5 A l.length c (l.flatMap StarT.cells)) (hv : Bk w vb 85 #[.string x.name, .int .i64 x.asc, .int .i64 x.dec, .int .i64 x.bri, .int .i64 x.fai]) (hlo : lo ≤ w.heap.size) :
    Calls Try.prog 133 #[.slice A l.length c, .int .i64 (l.length : Int), .slice (some ⟨vb, 0, none⟩) 1 1] w fun e w' => ∃ A' c', e = .returned (.slice A' (l.length + 1) c') ∧ Own w' lo 85 5 A' (l.length + 1) c' ((insL l l.length x).flatMap StarT.cells) ∧ w.grownBy w' (Value.slice A 0 0).ownBlock := by
  obtain ⟨i0, hi, hz0, hz1, hz2⟩ := info_parts info_Star
  have HO := hide ho
  have hfl : (insL l l.length x).flatMap StarT.cells = l.flatMap StarT.cells ++ StarT.cells x := by rw [insL]; simp
  have HFL := hide hfl
  have hcap : l.length ≤ c := ho.parts.2.1
  have hbl : (Value.slice A 0 0).ownBlock = (Value.slice A l.length c).ownBlock := ownBlock_any _ _ _ _ _
  have HBL := hide hbl
  have hA : A = none ∨ ∃ g, A = some ⟨g, 0, none⟩ := by
    obtain ⟨_, _, _, ⟨e, _⟩ | ⟨g, _, e, _⟩⟩ := ho.parts
    · exact .inl e
    · exact .inr ⟨g, e⟩
  have hl0 : A = none → l.length = 0 ∧ c = 0 := by
    obtain ⟨_, _, _, ⟨_, e2, e3⟩ | ⟨g, _, e, _⟩⟩ := ho.parts
    · exact fun _ => ⟨e2, e3⟩
    · intro h; rw [h] at e; cases e
  have HV := hide (show ∀ j u, (StarT.cells x)[j]? = some u → w.cell? ((⟨vb, 0, none⟩ : Addr).add j) = some u from fun j u hu => by
    have hadd : (⟨vb, 0, none⟩ : Addr).add j = ⟨vb, j, none⟩ := by unfold Addr.add; split <;> simp_all
    rw [hadd, hv.cell j]
    simpa [StarT.cells] using hu)
  have HL := hide hl0
  clear ho hfl hv hbl hl0
  rcases hA with rfl | ⟨g, rfl⟩
  · obtain ⟨e1, e2⟩ := HL.out rfl
    obtain rfl : l = [] := List.eq_nil_of_length_eq_zero e1
    subst e2
    clear e1
    go_enter Try.func133, Try.ntmps133
    go_wp2_with (at_builtin; refine wpList_append_own _ rfl _ _ 33 rfl lo 85 i0 (.agg #[.string ⟨#[]⟩, .int .i64 0, .int .i64 0, .int .i64 0, .int .i64 0]) 5 48 Try.underlying33 hi hz0 hz1 hz2 rfl (by decide) _ 0 [] rfl Own.none_ ⟨vb, 0, none⟩ 1 1 (StarT.cells x) rfl rfl HV.out (oneCS x) (by unfold maxLen; omega) (by omega) hlo ?_)
    intro v' w1 hown hgrow _
    obtain ⟨A', c', rfl, hown⟩ := own_cases hown
    have HX := hide (And.intro hown hgrow)
    clear hown hgrow
    go_wp2
    go_ret
    refine ⟨A', c', rfl, ?_, HX.out.2⟩
    rw [show (insL ([] : List StarT) 0 x).flatMap StarT.cells = _ from HFL.out]
    exact HX.out.1
  · go_enter Try.func133, Try.ntmps133
    go_wp2_with (at_builtin; refine wpList_append_own _ rfl _ _ 33 rfl lo 85 i0 (.agg #[.string ⟨#[]⟩, .int .i64 0, .int .i64 0, .int .i64 0, .int .i64 0]) 5 48 Try.underlying33 hi hz0 hz1 hz2 rfl (by decide) _ l.length (l.flatMap StarT.cells) rfl HO.out ⟨vb, 0, none⟩ 1 1 (StarT.cells x) rfl rfl HV.out (oneCS x) (by unfold maxLen; omega) (by omega) hlo ?_)
    all_goals
      intro v' w1 hown hgrow _
      obtain ⟨A', c', rfl, hown⟩ := own_cases hown
      have HX := hide (And.intro hown hgrow)
      clear hown hgrow
      go_wp2
      go_ret
      exact ⟨A', c', rfl, by rw [HFL.out]; exact HX.out.1, HX.out.2⟩
set_option maxHeartbeats 4000000 in
set_option maxRecDepth 100000 in
/-- There is room: in place. -/
theorem InsS_room (lo vb g : Nat) (c i : Nat) (l : List StarT) (x : StarT) (w : World) (hn : l.length ≤ 1000) (hi : i < l.length) (hc : l.length + 1 ≤ c) (hne : vb ≠ g) (ho : Own w lo 85 5 (some ⟨g, 0, none⟩) l.length c (l.flatMap StarT.cells)) (hv : Bk w vb 85 #[.string x.name, .int .i64 x.asc, .int .i64 x.dec, .int .i64 x.bri, .int .i64 x.fai]) (hlo : lo ≤ w.heap.size) :
    Calls Try.prog 133 #[.slice (some ⟨g, 0, none⟩) l.length c, .int .i64 (i : Int), .slice (some ⟨vb, 0, none⟩) 1 1] w fun e w' => ∃ A' c', e = .returned (.slice A' (l.length + 1) c') ∧ Own w' lo 85 5 A' (l.length + 1) c' ((insL l i x).flatMap StarT.cells) ∧ w.grownBy w' (some g) := by
  obtain ⟨h1, h2, h3, ⟨e, _⟩ | ⟨g', cur, e, hlg, hB, hs, ht⟩⟩ := ho.parts
  · cases e
  injection e with e
  injection e with e _
  subst e
  obtain ⟨i0, hi0, hz0, hz1, hz2⟩ := info_parts info_Star
  have hsz : (Try.prog.info? 85).map (·.size) = some 5 := by rw [hi0]; simp [hz1]
  have hov : ∀ lb cb, (callFunc 145 #[.slice (some ⟨vb, 0, none⟩) 1 1, .slice (some ⟨g, (i + 1) * 5, none⟩) lb cb]).run Try.prog w = .ok (.value (.bool false)) w := fun lb cb => by
    rw [run_callFunc_extern Try.func145 (by kernel_rfl) (by kernel_rfl) (by kernel_rfl) (e := Extern.SlicesOverlaps.overlaps #[33, 33] #[4]) (by kernel_rfl),
      Lib.run_overlaps_apart w 33 4 85 Try.underlying33 5 (fun w => by simp [sizeOf, typeInfo, hi0, hz1]) ⟨vb, 0, none⟩ ⟨g, (i + 1) * 5, none⟩ 1 1 lb cb hne 85 85 _ _ hv.shape hB.shape (by omega) (hv.frozen 0) (hv.frozen _)]
    rfl
  have hdl : ((l.drop i).flatMap StarT.cells).length = (l.length - i) * 5 := by rw [flat_len StarT.cells 5 StarT.cells_len, List.length_drop]
  have hck : c * 5 = cur.size := hs.symm
  have hadd : ∀ (b o j : Nat), (⟨b, o, none⟩ : Addr).add j = ⟨b, o + j, none⟩ := fun b o j => by unfold Addr.add; split <;> simp_all
  have hsrc : ∀ j v, ((l.drop i).flatMap StarT.cells)[j]? = some v → w.cell? ((⟨g, i * 5, none⟩ : Addr).add j) = some v := fun j v hj => by
    have hlt : i * 5 + j < l.length * 5 := by
      rcases Nat.lt_or_ge j ((l.length - i) * 5) with h0 | h0
      · omega
      · rw [List.getElem?_eq_none (by rw [hdl]; exact h0)] at hj; cases hj
    rw [hadd, hB.cell]
    rw [← flat_drop StarT.cells_len, List.getElem?_drop, ← ht, List.getElem?_take_of_lt hlt] at hj
    simpa using hj
  obtain ⟨C1, hC1⟩ : ∃ C1, C1 = (cur.toList.take ((i + 1) * 5) ++ (l.drop i).flatMap StarT.cells ++ cur.toList.drop ((i + 1) * 5 + ((l.drop i).flatMap StarT.cells).length)).toArray := ⟨_, rfl⟩
  have hcp1 : ∀ ty dc sc, (Builtin.copy_ #[33, 33] ty #[.slice (some ⟨g, (i + 1) * 5, none⟩) (l.length - i) dc, .slice (some ⟨g, i * 5, none⟩) (l.length + 1 - i) sc]).run Try.prog w.drew = .ok (goInt ((l.length - i : Nat) : Int)) (w.drew.setRow g C1) := fun ty dc sc => by
    rw [hC1]
    exact run_copy_K 5 w.drew 33 33 ty 85 g ((i + 1) * 5) (l.length - i) dc ⟨g, i * 5, none⟩ (l.length + 1 - i) sc (l.length - i) cur 85 _ Try.underlying33 hsz hB (by simp only [Nat.min_def]; split <;> omega) hdl hsrc (by rw [hdl]; omega) oneS
  have hs1 : C1.size = cur.size := by rw [hC1]; exact ins_size (by rw [hdl]; omega)
  obtain ⟨W1, hW1⟩ : ∃ W1, W1 = w.drew.setRow g C1 := ⟨_, rfl⟩
  have hB1 : Bk W1 g 85 C1 := by rw [hW1]; exact Bk.row (w := w.drew) hB C1
  have hv1 : Bk W1 vb 85 #[.string x.name, .int .i64 x.asc, .int .i64 x.dec, .int .i64 x.bri, .int .i64 x.fai] := by rw [hW1]; exact Bk.row_far (w := w.drew) hv hne C1
  have hcp2 : ∀ ty dc, (Builtin.copy_ #[33, 33] ty #[.slice (some ⟨g, i * 5, none⟩) (l.length + 1 - i) dc, .slice (some ⟨vb, 0, none⟩) 1 1]).run Try.prog W1 = .ok (goInt ((1 : Nat) : Int)) (W1.setRow g (C1.toList.take (i * 5) ++ StarT.cells x ++ C1.toList.drop (i * 5 + (StarT.cells x).length)).toArray) := fun ty dc =>
    run_copy_K 5 W1 33 33 ty 85 g (i * 5) (l.length + 1 - i) dc ⟨vb, 0, none⟩ 1 1 1 C1 85 _ Try.underlying33 hsz hB1 (by simp only [Nat.min_def]; split <;> omega) rfl (fun j v hj => by rw [hadd, Nat.zero_add, hv1.cell]; simpa [StarT.cells] using hj) (by rw [hs1]; simp only [StarT.cells_len]; omega) (oneCS x)
  obtain ⟨C2, hC2⟩ : ∃ C2, C2 = (C1.toList.take (i * 5) ++ StarT.cells x ++ C1.toList.drop (i * 5 + (StarT.cells x).length)).toArray := ⟨_, rfl⟩
  rw [← hC2] at hcp2
  have HRES := hide (show Own (W1.setRow g C2) lo 85 5 (some ⟨g, 0, none⟩) (l.length + 1) c ((insL l i x).flatMap StarT.cells) from by
    rw [hC2]
    refine Own.mk_ (by rw [flat_len StarT.cells 5 StarT.cells_len, insL_len (by omega)]) hc h3 hlg (hB1.row _) (by rw [ins_size (by rw [hs1]; simp only [StarT.cells_len]; omega), hs1]; exact hs) ?_
    have hP : cur.toList.take (i * 5) = (l.take i).flatMap StarT.cells := by
      rw [← flat_take StarT.cells_len, ← ht, List.take_take, Nat.min_eq_left (by omega)]
    have k1 := ins_down (cur := cur) (a := i * 5) (b := 5) (xs := StarT.cells x) (ys := (l.drop i).flatMap StarT.cells) hP (by rw [flat_len StarT.cells 5 StarT.cells_len, List.length_take, Nat.min_eq_left (by omega)]) rfl (by rw [hdl]; omega)
    rw [insL_flat, hdl] at k1
    rw [hC1, hdl, show (l.length + 1) * 5 = i * 5 + 5 + (l.length - i) * 5 from by omega, show (i + 1) * 5 = i * 5 + 5 from by omega]
    exact k1)
  have HG := hide (show w.grownBy (W1.setRow g C2) (some g) from by
    rw [hW1]
    have g1 := grown_setRow w g C1
    have g2 := grown_setRow (w.setRow g C1) g C2
    exact ⟨g2.os.trans g1.os, g2.tape.trans g1.tape, g2.output.trans g1.output, Nat.le_trans g1.size g2.size, fun j hj hx => (g2.block j (Nat.lt_of_lt_of_le hj g1.size) hx).trans (g1.block j hj hx)⟩)
  rw [← hW1] at hcp1
  have HW1 := hide hW1
  have HC1 := hide hcp1
  have HC2 := hide hcp2
  have hz1' : ¬ ((i : Int) = (l.length : Int)) := by omega
  have hw1 : IntKind.i64.wrap ((i : Int) + 1) = (i : Int) + 1 := by rw [IntKind.wrap_i64]; omega
  have hb1 : (0 : Int) ≤ (i : Int) + 1 := by omega
  have hin : i ≤ l.length := by omega
  have htn : ((i : Int) + 1).toNat = i + 1 := by omega
  have hb2 : ¬ (c = i + 1) := by omega
  have hb3 : (i : Int) ≤ (l.length : Int) + 1 := by omega
  have hb4 : ¬ (c = i) := by omega
  have hcc : (l.length : Int) + 1 ≤ (c : Int) := by omega
  have hc63 : c ≤ 9223372036854775807 := by unfold maxLen at h3; omega
  clear ho hv hB hs ht hdl hck hadd hsrc hC1 hC2 hs1 hB1 hv1 hW1 hcp1 hcp2
  go_enter Try.func133, Try.ntmps133
  go_wp2_with (simp only [hov])
  go_region_law (refine step_copy_runI rfl _ _ 33 33 rfl (.slice (some ⟨g, (i + 1) * 5, none⟩) (l.length - i) (c - (i + 1))) (.slice (some ⟨g, i * 5, none⟩) (l.length + 1 - i) (c - i)) (by simp [Act.eval, Act.put]) (by simp [Act.eval, Act.put]) (HC1.out _ _ _) ?_)
  go_wp2_with fail
  rw [HC2.out]
  go_wp2
  go_ret
  exact ⟨_, _, rfl, HRES.out, HG.out⟩
set_option maxHeartbeats 4000000 in
set_option maxRecDepth 100000 in
/-- There is no room: a new row. -/
theorem InsS_grow (lo vb g : Nat) (c i : Nat) (l : List StarT) (x : StarT) (w : World) (hn : l.length ≤ 1000) (hi : i < l.length) (hc : c < l.length + 1) (ho : Own w lo 85 5 (some ⟨g, 0, none⟩) l.length c (l.flatMap StarT.cells)) (hv : Bk w vb 85 #[.string x.name, .int .i64 x.asc, .int .i64 x.dec, .int .i64 x.bri, .int .i64 x.fai]) (hlo : lo ≤ w.heap.size) :
    Calls Try.prog 133 #[.slice (some ⟨g, 0, none⟩) l.length c, .int .i64 (i : Int), .slice (some ⟨vb, 0, none⟩) 1 1] w fun e w' => ∃ A' c', e = .returned (.slice A' (l.length + 1) c') ∧ Own w' lo 85 5 A' (l.length + 1) c' ((insL l i x).flatMap StarT.cells) ∧ w.grownBy w' (some g) := by
  obtain ⟨h1, h2, h3, ⟨e, _⟩ | ⟨g', cur, e, hlg, hB, hs, ht⟩⟩ := ho.parts
  · cases e
  injection e with e
  injection e with e _
  subst e
  obtain ⟨i0, hi0, hz0, hz1, hz2⟩ := info_parts info_Star
  have hsz : (Try.prog.info? 85).map (·.size) = some 5 := by rw [hi0]; simp [hz1]
  have hdl : ((l.drop i).flatMap StarT.cells).length = (l.length - i) * 5 := by rw [flat_len StarT.cells 5 StarT.cells_len, List.length_drop]
  have htl : ((l.take i).flatMap StarT.cells).length = i * 5 := by rw [flat_len StarT.cells 5 StarT.cells_len, List.length_take, Nat.min_eq_left (by omega)]
  have hck : c * 5 = cur.size := hs.symm
  have hadd : ∀ (b o j : Nat), (⟨b, o, none⟩ : Addr).add j = ⟨b, o + j, none⟩ := fun b o j => by unfold Addr.add; split <;> simp_all
  have hcell : ∀ j, j < l.length * 5 → w.cell? ⟨g, j, none⟩ = (l.flatMap StarT.cells)[j]? := fun j hj => by
    rw [hB.cell, ← ht, List.getElem?_take_of_lt hj]
    simp
  have hold : (Builtin.firstCells i0.size i (.slice (some ⟨g, 0, none⟩) i c)).run Try.prog w.drew = .ok ((l.take i).flatMap StarT.cells).toArray w.drew := by
    rw [hz1]
    refine run_firstCells_some w.drew 5 i ⟨g, 0, none⟩ i c _ htl (fun j v hj => ?_)
    have hjl : j < i * 5 := by
      rcases Nat.lt_or_ge j (i * 5) with h0 | h0
      · exact h0
      · rw [List.getElem?_eq_none (by rw [htl]; exact h0)] at hj; cases hj
    rw [hadd, Nat.zero_add]
    refine (hcell j (by omega)).trans ?_
    rw [← flat_take StarT.cells_len, List.getElem?_take_of_lt hjl] at hj
    exact hj
  have hkk : (l.length : Int) + 1 - (i : Int) = ((l.length + 1 - i : Nat) : Int) := by omega
  have hik : i + (l.length + 1 - i) = l.length + 1 := by omega
  have hrz : ∀ ty, (Builtin.append_ #[33, 3] ty #[.slice (some ⟨g, 0, none⟩) i c, .int .i64 ((l.length : Int) + 1 - (i : Int))]).run Try.prog w = .ok (.slice (some ⟨w.heap.size, 0, none⟩) (l.length + 1) (grownCap w (l.length + 1) c 85)) (w.drew.alloc (.cells (((l.take i).flatMap StarT.cells).toArray ++ Builtin.zeroCells (.agg #[.string ⟨#[]⟩, .int .i64 0, .int .i64 0, .int .i64 0, .int .i64 0] : Value).cells (l.length + 1 - i) ++ Builtin.zeroCells (.agg #[.string ⟨#[]⟩, .int .i64 0, .int .i64 0, .int .i64 0, .int .i64 0] : Value).cells (grownCap w (l.length + 1) c 85 - (l.length + 1))) 85)) := fun ty => by
    have h := Lib.run_append_grow_zeros w 33 3 ty 85 i0 _ .i64 .i64 Try.underlying33 Try.underlying3 hi0 hz0 (some ⟨g, 0, none⟩) i c _ hold (l.length + 1 - i) (by omega) (by omega) (by omega) (by omega) (by rw [hz2]; omega) (by rw [hz2, hik]; exact growslice_fits hc (by omega))
    rw [hik] at h
    rw [hkk]
    exact h
  obtain ⟨G, hG⟩ : ∃ G, G = grownCap w (l.length + 1) c 85 := ⟨_, rfl⟩
  have hG1 : l.length + 1 ≤ G := hG ▸ grownCap_ge _ _ _ _
  have hG2 : G ≤ maxLen := hG ▸ grownCap_le_maxLen _ _ _ _ (by unfold maxLen; omega)
  rw [← hG] at hrz
  obtain ⟨ROW, hROW⟩ : ∃ ROW : Array Value, ROW = ((l.take i).flatMap StarT.cells).toArray ++ Builtin.zeroCells (.agg #[.string ⟨#[]⟩, .int .i64 0, .int .i64 0, .int .i64 0, .int .i64 0] : Value).cells (l.length + 1 - i) ++ Builtin.zeroCells (.agg #[.string ⟨#[]⟩, .int .i64 0, .int .i64 0, .int .i64 0, .int .i64 0] : Value).cells (G - (l.length + 1)) := ⟨_, rfl⟩
  rw [← hROW] at hrz
  have hRs : ROW.size = G * 5 := by
    have hz : (.agg #[.string ⟨#[]⟩, .int .i64 0, .int .i64 0, .int .i64 0, .int .i64 0] : Value).cells.size = 5 := by decide
    rw [hROW, Array.size_append, Array.size_append, size_zeroCells, size_zeroCells, hz]
    simp only [List.size_toArray, htl]
    omega
  have hRt : ROW.toList.take (i * 5) = (l.take i).flatMap StarT.cells := by
    rw [hROW]
    simp only [Array.toList_append, List.append_assoc]
    exact List.take_left' htl
  obtain ⟨W1, hW1⟩ : ∃ W1, W1 = w.drew.alloc (.cells ROW 85) := ⟨_, rfl⟩
  rw [← hW1] at hrz
  have hgw : g < w.heap.size := hB.lt
  have hvw : vb < w.heap.size := hv.lt
  have hB1 : Bk W1 w.heap.size 85 ROW := by rw [hW1]; exact Bk.new w.drew 85 ROW
  have hO1 : Bk W1 g 85 cur := by rw [hW1]; exact Bk.alloc (w := w.drew) hB _
  have hv1 : Bk W1 vb 85 #[.string x.name, .int .i64 x.asc, .int .i64 x.dec, .int .i64 x.bri, .int .i64 x.fai] := by rw [hW1]; exact Bk.alloc (w := w.drew) hv _
  obtain ⟨C1, hC1⟩ : ∃ C1, C1 = (ROW.toList.take (i * 5) ++ StarT.cells x ++ ROW.toList.drop (i * 5 + (StarT.cells x).length)).toArray := ⟨_, rfl⟩
  have hcp1 : ∀ ty dc, (Builtin.copy_ #[33, 33] ty #[.slice (some ⟨w.heap.size, i * 5, none⟩) (l.length + 1 - i) dc, .slice (some ⟨vb, 0, none⟩) 1 1]).run Try.prog W1 = .ok (goInt ((1 : Nat) : Int)) (W1.setRow w.heap.size C1) := fun ty dc => by
    rw [hC1]
    exact run_copy_K 5 W1 33 33 ty 85 w.heap.size (i * 5) (l.length + 1 - i) dc ⟨vb, 0, none⟩ 1 1 1 ROW 85 _ Try.underlying33 hsz hB1 (by simp only [Nat.min_def]; split <;> omega) rfl (fun j v hj => by rw [hadd, Nat.zero_add, hv1.cell]; simpa [StarT.cells] using hj) (by rw [hRs]; simp only [StarT.cells_len]; omega) (oneCS x)
  have hs1 : C1.size = G * 5 := by rw [hC1, ins_size (by rw [hRs]; simp only [StarT.cells_len]; omega), hRs]
  obtain ⟨W2, hW2⟩ : ∃ W2, W2 = (W1.setRow w.heap.size C1).drew := ⟨_, rfl⟩
  have hB2 : Bk W2 w.heap.size 85 C1 := by rw [hW2]; exact hB1.row C1
  have hO2 : Bk W2 g 85 cur := by rw [hW2]; exact hO1.row_far (by omega) C1
  have hsrc : ∀ j v, ((l.drop i).flatMap StarT.cells)[j]? = some v → W2.cell? ((⟨g, i * 5, none⟩ : Addr).add j) = some v := fun j v hj => by
    have hlt : i * 5 + j < l.length * 5 := by
      rcases Nat.lt_or_ge j ((l.length - i) * 5) with h0 | h0
      · omega
      · rw [List.getElem?_eq_none (by rw [hdl]; exact h0)] at hj; cases hj
    rw [hadd, hO2.cell]
    rw [← flat_drop StarT.cells_len, List.getElem?_drop, ← ht, List.getElem?_take_of_lt hlt] at hj
    simpa using hj
  have hcp2 : ∀ ty dc sc, (Builtin.copy_ #[33, 33] ty #[.slice (some ⟨w.heap.size, (i + 1) * 5, none⟩) (l.length - i) dc, .slice (some ⟨g, i * 5, none⟩) (l.length - i) sc]).run Try.prog W2 = .ok (goInt ((l.length - i : Nat) : Int)) (W2.setRow w.heap.size (C1.toList.take (i * 5 + 5) ++ (l.drop i).flatMap StarT.cells ++ C1.toList.drop (i * 5 + 5 + ((l.drop i).flatMap StarT.cells).length)).toArray) := fun ty dc sc => by
    have e : (i + 1) * 5 = i * 5 + 5 := by omega
    rw [e]
    exact run_copy_K 5 W2 33 33 ty 85 w.heap.size (i * 5 + 5) (l.length - i) dc ⟨g, i * 5, none⟩ (l.length - i) sc (l.length - i) C1 85 _ Try.underlying33 hsz hB2 (by simp only [Nat.min_def]; split <;> omega) hdl hsrc (by rw [hdl, hs1]; omega) oneS
  obtain ⟨C2, hC2⟩ : ∃ C2, C2 = (C1.toList.take (i * 5 + 5) ++ (l.drop i).flatMap StarT.cells ++ C1.toList.drop (i * 5 + 5 + ((l.drop i).flatMap StarT.cells).length)).toArray := ⟨_, rfl⟩
  rw [← hC2] at hcp2
  have HRES := hide (show Own (W2.setRow w.heap.size C2) lo 85 5 (some ⟨w.heap.size, 0, none⟩) (l.length + 1) G ((insL l i x).flatMap StarT.cells) from by
    refine Own.mk_ (by rw [flat_len StarT.cells 5 StarT.cells_len, insL_len (by omega)]) hG1 hG2 hlo (hB2.row _) (by rw [hC2, ins_size (by rw [hdl, hs1]; omega), hs1]) ?_
    have k1 := ins_up (cur := ROW) (a := i * 5) (b := 5) (xs := StarT.cells x) (ys := (l.drop i).flatMap StarT.cells) hRt htl rfl (by rw [hdl, hRs]; omega)
    rw [insL_flat, hdl] at k1
    rw [hC2, hC1, hdl, show (l.length + 1) * 5 = i * 5 + 5 + (l.length - i) * 5 from by omega]
    exact k1)
  have HG := hide (show w.grownBy (W2.setRow w.heap.size C2) (some g) from by
    have b1 : Below w.heap.size w W1 := by rw [hW1]; exact ((Below.refl _ w).drew).alloc (Nat.le_refl _) _
    have b2 : Below w.heap.size w W2 := by rw [hW2]; exact (below_setRow b1 (Nat.le_refl _) C1).drew
    have b3 := below_setRow b2 (Nat.le_refl _) C2
    exact ⟨b3.os, b3.tape, b3.output, b3.size, fun j hj _ => b3.block j hj⟩)
  subst hW2
  have HRZ := hide hrz
  have HC1 := hide hcp1
  have HC2 := hide hcp2
  have hW1' : w.drew.alloc (.cells ROW 85) = (w.alloc (.cells ROW 85)).drew := rfl
  have hz1' : ¬ ((i : Int) = (l.length : Int)) := by omega
  have hw1 : IntKind.i64.wrap ((i : Int) + 1) = (i : Int) + 1 := by rw [IntKind.wrap_i64]; omega
  have hb1 : (0 : Int) ≤ (i : Int) + 1 := by omega
  have hin : i ≤ l.length := by omega
  have htn : ((i : Int) + 1).toNat = i + 1 := by omega
  have hb3 : (i : Int) ≤ (l.length : Int) := by omega
  have hb4 : ¬ (c = i) := by omega
  have hGi : ¬ (G = i) := by omega
  have hGim : ¬ (G = i + 1) := by omega
  have hcc : (c : Int) < (l.length : Int) + 1 := by omega
  have hc63 : c ≤ 9223372036854775807 := by unfold maxLen at h3; omega
  have hG63 : G ≤ 9223372036854775807 := by unfold maxLen at hG2; omega
  clear ho hv hB hs ht hdl htl hck hadd hcell hold hkk hik hG hROW hRs hRt hW1 hgw hvw hB1 hO1 hv1 hC1 hs1 hB2 hO2 hsrc hC2 hcp1 hcp2 hrz hW1'
  go_enter Try.func133, Try.ntmps133
  go_wp2_with (at_builtin; refine Lib.wpList_append_run _ rfl _ _ _ _ rfl _ _ rfl rfl _ _ (HRZ.out _) ?_)
  go_wp2_with fail
  rw [HC1.out]
  go_wp2_with fail
  go_region_law (refine step_copy_runI rfl _ _ 33 33 rfl (.slice (some ⟨w.heap.size, (i + 1) * 5, none⟩) (l.length - i) (G - (i + 1))) (.slice (some ⟨g, i * 5, none⟩) (l.length - i) (c - i)) (by simp [Act.eval, Act.put]) (by simp [Act.eval, Act.put]) (HC2.out _ _ _) ?_)
  go_wp2
  go_ret
  exact ⟨_, _, rfl, HRES.out, HG.out⟩
theorem insS_end : True := trivial
end Go.Proofs.Ytldgelkgobocdaa
