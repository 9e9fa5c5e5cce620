/-
  Contract: an element put into a list of the call's own (slices.Insert at a record).
-/
import Derived.Test.YtldgelkgobocdaaInsK
import Derived.Test.YtldgelkgobocdaaRecO
import Derived.Test.YtldgelkgobocdaaCopyO
import Derived.Deep.RegionLaw
import Derived.Laws.CopyOwn
import Derived.Deep.QuietTactic
import Derived.BigQuiet
import Derived.Outline
namespace Go.Proofs.Ytldgelkgobocdaa
open Go.RowKit Pl
set_option linter.unusedVariables false
set_option linter.unusedSimpArgs false
theorem oneCO (x : ObsT) : ∀ u ∈ ObsT.cells x, u.oneCell' = true := fun u hu => oneO (l := [x]) u (by simpa using hu)
set_option maxHeartbeats 4000000 in
set_option maxRecDepth 100000 in
/-- At the end. -/
theorem InsO_end (lo vb : Nat) (A : Option Addr) (c : Nat) (l : List ObsT) (x : ObsT) (w : World) (hn : l.length ≤ 1000) (ho : Own w lo 77 2 A l.length c (l.flatMap ObsT.cells)) (hv : Bk w vb 77 #[.string x.name, .int .i64 x.shift]) (hlo : lo ≤ w.heap.size) :
    Calls Try.prog 130 #[.slice A l.length c, .int .i64 (l.length : Int), .slice (some ⟨vb, 0, none⟩) 1 1] w fun e w' => ∃ A' c', e = .returned (.slice A' (l.length + 1) c') ∧ Own w' lo 77 2 A' (l.length + 1) c' ((insL l l.length x).flatMap ObsT.cells) ∧ w.grownBy w' (Value.slice A 0 0).ownBlock := by
  obtain ⟨i0, hi, hz0, hz1, hz2⟩ := info_parts info_Observer
  have HO := hide ho
  have hfl : (insL l l.length x).flatMap ObsT.cells = l.flatMap ObsT.cells ++ ObsT.cells x := by rw [insL]; simp
  have HFL := hide hfl
  have hcap : l.length ≤ c := ho.parts.2.1
  have hbl : (Value.slice A 0 0).ownBlock = (Value.slice A l.length c).ownBlock := ownBlock_any _ _ _ _ _
  have HBL := hide hbl
  have hA : A = none ∨ ∃ g, A = some ⟨g, 0, none⟩ := by
    obtain ⟨_, _, _, ⟨e, _⟩ | ⟨g, _, e, _⟩⟩ := ho.parts
    · exact .inl e
    · exact .inr ⟨g, e⟩
  have hl0 : A = none → l.length = 0 ∧ c = 0 := by
    obtain ⟨_, _, _, ⟨_, e2, e3⟩ | ⟨g, _, e, _⟩⟩ := ho.parts
    · exact fun _ => ⟨e2, e3⟩
    · intro h; rw [h] at e; cases e
  have HV := hide (show ∀ j u, (ObsT.cells x)[j]? = some u → w.cell? ((⟨vb, 0, none⟩ : Addr).add j) = some u from fun j u hu => by
    have hadd : (⟨vb, 0, none⟩ : Addr).add j = ⟨vb, j, none⟩ := by unfold Addr.add; split <;> simp_all
    rw [hadd, hv.cell j]
    simpa [ObsT.cells] using hu)
  have HL := hide hl0
  clear ho hfl hv hbl hl0
  rcases hA with rfl | ⟨g, rfl⟩
  · obtain ⟨e1, e2⟩ := HL.out rfl
    obtain rfl : l = [] := List.eq_nil_of_length_eq_zero e1
    subst e2
    clear e1
    go_enter Try.func130, Try.ntmps130
    go_wp2_with (at_builtin; refine wpList_append_own _ rfl _ _ 26 rfl lo 77 i0 (.agg #[.string ⟨#[]⟩, .int .i64 0]) 2 24 Try.underlying26 hi hz0 hz1 hz2 rfl (by decide) _ 0 [] rfl Own.none_ ⟨vb, 0, none⟩ 1 1 (ObsT.cells x) rfl rfl HV.out (oneCO x) (by unfold maxLen; omega) (by omega) hlo ?_)
    intro v' w1 hown hgrow _
    obtain ⟨A', c', rfl, hown⟩ := own_cases hown
    have HX := hide (And.intro hown hgrow)
    clear hown hgrow
    go_wp2
    go_ret
    refine ⟨A', c', rfl, ?_, HX.out.2⟩
    rw [show (insL ([] : List ObsT) 0 x).flatMap ObsT.cells = _ from HFL.out]
    exact HX.out.1
  · go_enter Try.func130, Try.ntmps130
    go_wp2_with (at_builtin; refine wpList_append_own _ rfl _ _ 26 rfl lo 77 i0 (.agg #[.string ⟨#[]⟩, .int .i64 0]) 2 24 Try.underlying26 hi hz0 hz1 hz2 rfl (by decide) _ l.length (l.flatMap ObsT.cells) rfl HO.out ⟨vb, 0, none⟩ 1 1 (ObsT.cells x) rfl rfl HV.out (oneCO x) (by unfold maxLen; omega) (by omega) hlo ?_)
    all_goals
      intro v' w1 hown hgrow _
      obtain ⟨A', c', rfl, hown⟩ := own_cases hown
      have HX := hide (And.intro hown hgrow)
      clear hown hgrow
      go_wp2
      go_ret
      exact ⟨A', c', rfl, by rw [HFL.out]; exact HX.out.1, HX.out.2⟩
set_option maxHeartbeats 4000000 in
set_option maxRecDepth 100000 in
/-- There is room: in place. -/
theorem InsO_room (lo vb g : Nat) (c i : Nat) (l : List ObsT) (x : ObsT) (w : World) (hn : l.length ≤ 1000) (hi : i < l.length) (hc : l.length + 1 ≤ c) (hne : vb ≠ g) (ho : Own w lo 77 2 (some ⟨g, 0, none⟩) l.length c (l.flatMap ObsT.cells)) (hv : Bk w vb 77 #[.string x.name, .int .i64 x.shift]) (hlo : lo ≤ w.heap.size) :
    Calls Try.prog 130 #[.slice (some ⟨g, 0, none⟩) l.length c, .int .i64 (i : Int), .slice (some ⟨vb, 0, none⟩) 1 1] w fun e w' => ∃ A' c', e = .returned (.slice A' (l.length + 1) c') ∧ Own w' lo 77 2 A' (l.length + 1) c' ((insL l i x).flatMap ObsT.cells) ∧ w.grownBy w' (some g) := by
  obtain ⟨h1, h2, h3, ⟨e, _⟩ | ⟨g', cur, e, hlg, hB, hs, ht⟩⟩ := ho.parts
  · cases e
  injection e with e
  injection e with e _
  subst e
  obtain ⟨i0, hi0, hz0, hz1, hz2⟩ := info_parts info_Observer
  have hsz : (Try.prog.info? 77).map (·.size) = some 2 := by rw [hi0]; simp [hz1]
  have hov : ∀ lb cb, (callFunc 143 #[.slice (some ⟨vb, 0, none⟩) 1 1, .slice (some ⟨g, (i + 1) * 2, none⟩) lb cb]).run Try.prog w = .ok (.value (.bool false)) w := fun lb cb => by
    rw [run_callFunc_extern Try.func143 (by kernel_rfl) (by kernel_rfl) (by kernel_rfl) (e := Extern.SlicesOverlaps.overlaps #[26, 26] #[4]) (by kernel_rfl),
      Lib.run_overlaps_apart w 26 4 77 Try.underlying26 2 (fun w => by simp [sizeOf, typeInfo, hi0, hz1]) ⟨vb, 0, none⟩ ⟨g, (i + 1) * 2, none⟩ 1 1 lb cb hne 77 77 _ _ hv.shape hB.shape (by omega) (hv.frozen 0) (hv.frozen _)]
    rfl
  have hdl : ((l.drop i).flatMap ObsT.cells).length = (l.length - i) * 2 := by rw [flat_len ObsT.cells 2 ObsT.cells_len, List.length_drop]
  have hck : c * 2 = cur.size := hs.symm
  have hadd : ∀ (b o j : Nat), (⟨b, o, none⟩ : Addr).add j = ⟨b, o + j, none⟩ := fun b o j => by unfold Addr.add; split <;> simp_all
  have hsrc : ∀ j v, ((l.drop i).flatMap ObsT.cells)[j]? = some v → w.cell? ((⟨g, i * 2, none⟩ : Addr).add j) = some v := fun j v hj => by
    have hlt : i * 2 + j < l.length * 2 := by
      rcases Nat.lt_or_ge j ((l.length - i) * 2) with h0 | h0
      · omega
      · rw [List.getElem?_eq_none (by rw [hdl]; exact h0)] at hj; cases hj
    rw [hadd, hB.cell]
    rw [← flat_drop ObsT.cells_len, List.getElem?_drop, ← ht, List.getElem?_take_of_lt hlt] at hj
    simpa using hj
  obtain ⟨C1, hC1⟩ : ∃ C1, C1 = (cur.toList.take ((i + 1) * 2) ++ (l.drop i).flatMap ObsT.cells ++ cur.toList.drop ((i + 1) * 2 + ((l.drop i).flatMap ObsT.cells).length)).toArray := ⟨_, rfl⟩
  have hcp1 : ∀ ty dc sc, (Builtin.copy_ #[26, 26] ty #[.slice (some ⟨g, (i + 1) * 2, none⟩) (l.length - i) dc, .slice (some ⟨g, i * 2, none⟩) (l.length + 1 - i) sc]).run Try.prog w.drew = .ok (goInt ((l.length - i : Nat) : Int)) (w.drew.setRow g C1) := fun ty dc sc => by
    rw [hC1]
    exact run_copy_K 2 w.drew 26 26 ty 77 g ((i + 1) * 2) (l.length - i) dc ⟨g, i * 2, none⟩ (l.length + 1 - i) sc (l.length - i) cur 77 _ Try.underlying26 hsz hB (by simp only [Nat.min_def]; split <;> omega) hdl hsrc (by rw [hdl]; omega) oneO
  have hs1 : C1.size = cur.size := by rw [hC1]; exact ins_size (by rw [hdl]; omega)
  obtain ⟨W1, hW1⟩ : ∃ W1, W1 = w.drew.setRow g C1 := ⟨_, rfl⟩
  have hB1 : Bk W1 g 77 C1 := by rw [hW1]; exact Bk.row (w := w.drew) hB C1
  have hv1 : Bk W1 vb 77 #[.string x.name, .int .i64 x.shift] := by rw [hW1]; exact Bk.row_far (w := w.drew) hv hne C1
  have hcp2 : ∀ ty dc, (Builtin.copy_ #[26, 26] ty #[.slice (some ⟨g, i * 2, none⟩) (l.length + 1 - i) dc, .slice (some ⟨vb, 0, none⟩) 1 1]).run Try.prog W1 = .ok (goInt ((1 : Nat) : Int)) (W1.setRow g (C1.toList.take (i * 2) ++ ObsT.cells x ++ C1.toList.drop (i * 2 + (ObsT.cells x).length)).toArray) := fun ty dc =>
    run_copy_K 2 W1 26 26 ty 77 g (i * 2) (l.length + 1 - i) dc ⟨vb, 0, none⟩ 1 1 1 C1 77 _ Try.underlying26 hsz hB1 (by simp only [Nat.min_def]; split <;> omega) rfl (fun j v hj => by rw [hadd, Nat.zero_add, hv1.cell]; simpa [ObsT.cells] using hj) (by rw [hs1]; simp only [ObsT.cells_len]; omega) (oneCO x)
  obtain ⟨C2, hC2⟩ : ∃ C2, C2 = (C1.toList.take (i * 2) ++ ObsT.cells x ++ C1.toList.drop (i * 2 + (ObsT.cells x).length)).toArray := ⟨_, rfl⟩
  rw [← hC2] at hcp2
  have HRES := hide (show Own (W1.setRow g C2) lo 77 2 (some ⟨g, 0, none⟩) (l.length + 1) c ((insL l i x).flatMap ObsT.cells) from by
    rw [hC2]
    refine Own.mk_ (by rw [flat_len ObsT.cells 2 ObsT.cells_len, insL_len (by omega)]) hc h3 hlg (hB1.row _) (by rw [ins_size (by rw [hs1]; simp only [ObsT.cells_len]; omega), hs1]; exact hs) ?_
    have hP : cur.toList.take (i * 2) = (l.take i).flatMap ObsT.cells := by
      rw [← flat_take ObsT.cells_len, ← ht, List.take_take, Nat.min_eq_left (by omega)]
    have k1 := ins_down (cur := cur) (a := i * 2) (b := 2) (xs := ObsT.cells x) (ys := (l.drop i).flatMap ObsT.cells) hP (by rw [flat_len ObsT.cells 2 ObsT.cells_len, List.length_take, Nat.min_eq_left (by omega)]) rfl (by rw [hdl]; omega)
    rw [insL_flat, hdl] at k1
    rw [hC1, hdl, show (l.length + 1) * 2 = i * 2 + 2 + (l.length - i) * 2 from by omega, show (i + 1) * 2 = i * 2 + 2 from by omega]
    exact k1)
  have HG := hide (show w.grownBy (W1.setRow g C2) (some g) from by
    rw [hW1]
    have g1 := grown_setRow w g C1
    have g2 := grown_setRow (w.setRow g C1) g C2
    exact ⟨g2.os.trans g1.os, g2.tape.trans g1.tape, g2.output.trans g1.output, Nat.le_trans g1.size g2.size, fun j hj hx => (g2.block j (Nat.lt_of_lt_of_le hj g1.size) hx).trans (g1.block j hj hx)⟩)
  rw [← hW1] at hcp1
  have HW1 := hide hW1
  have HC1 := hide hcp1
  have HC2 := hide hcp2
  have hz1' : ¬ ((i : Int) = (l.length : Int)) := by omega
  have hw1 : IntKind.i64.wrap ((i : Int) + 1) = (i : Int) + 1 := by rw [IntKind.wrap_i64]; omega
  have hb1 : (0 : Int) ≤ (i : Int) + 1 := by omega
  have hin : i ≤ l.length := by omega
  have htn : ((i : Int) + 1).toNat = i + 1 := by omega
  have hb2 : ¬ (c = i + 1) := by omega
  have hb3 : (i : Int) ≤ (l.length : Int) + 1 := by omega
  have hb4 : ¬ (c = i) := by omega
  have hcc : (l.length : Int) + 1 ≤ (c : Int) := by omega
  have hc63 : c ≤ 9223372036854775807 := by unfold maxLen at h3; omega
  clear ho hv hB hs ht hdl hck hadd hsrc hC1 hC2 hs1 hB1 hv1 hW1 hcp1 hcp2
  go_enter Try.func130, Try.ntmps130
  go_wp2_with (simp only [hov])
  go_region_law (refine step_copy_runI rfl _ _ 26 26 rfl (.slice (some ⟨g, (i + 1) * 2, none⟩) (l.length - i) (c - (i + 1))) (.slice (some ⟨g, i * 2, none⟩) (l.length + 1 - i) (c - i)) (by simp [Act.eval, Act.put]) (by simp [Act.eval, Act.put]) (HC1.out _ _ _) ?_)
  go_wp2_with fail
  rw [HC2.out]
  go_wp2
  go_ret
  exact ⟨_, _, rfl, HRES.out, HG.out⟩
set_option maxHeartbeats 4000000 in
set_option maxRecDepth 100000 in
/-- There is no room: a new row. -/
theorem InsO_grow (lo vb g : Nat) (c i : Nat) (l : List ObsT) (x : ObsT) (w : World) (hn : l.length ≤ 1000) (hi : i < l.length) (hc : c < l.length + 1) (ho : Own w lo 77 2 (some ⟨g, 0, none⟩) l.length c (l.flatMap ObsT.cells)) (hv : Bk w vb 77 #[.string x.name, .int .i64 x.shift]) (hlo : lo ≤ w.heap.size) :
    Calls Try.prog 130 #[.slice (some ⟨g, 0, none⟩) l.length c, .int .i64 (i : Int), .slice (some ⟨vb, 0, none⟩) 1 1] w fun e w' => ∃ A' c', e = .returned (.slice A' (l.length + 1) c') ∧ Own w' lo 77 2 A' (l.length + 1) c' ((insL l i x).flatMap ObsT.cells) ∧ w.grownBy w' (some g) := by
  obtain ⟨h1, h2, h3, ⟨e, _⟩ | ⟨g', cur, e, hlg, hB, hs, ht⟩⟩ := ho.parts
  · cases e
  injection e with e
  injection e with e _
  subst e
  obtain ⟨i0, hi0, hz0, hz1, hz2⟩ := info_parts info_Observer
  have hsz : (Try.prog.info? 77).map (·.size) = some 2 := by rw [hi0]; simp [hz1]
  have hdl : ((l.drop i).flatMap ObsT.cells).length = (l.length - i) * 2 := by rw [flat_len ObsT.cells 2 ObsT.cells_len, List.length_drop]
  have htl : ((l.take i).flatMap ObsT.cells).length = i * 2 := by rw [flat_len ObsT.cells 2 ObsT.cells_len, List.length_take, Nat.min_eq_left (by omega)]
  have hck : c * 2 = cur.size := hs.symm
  have hadd : ∀ (b o j : Nat), (⟨b, o, none⟩ : Addr).add j = ⟨b, o + j, none⟩ := fun b o j => by unfold Addr.add; split <;> simp_all
  have hcell : ∀ j, j < l.length * 2 → w.cell? ⟨g, j, none⟩ = (l.flatMap ObsT.cells)[j]? := fun j hj => by
    rw [hB.cell, ← ht, List.getElem?_take_of_lt hj]
    simp
  have hold : (Builtin.firstCells i0.size i (.slice (some ⟨g, 0, none⟩) i c)).run Try.prog w.drew = .ok ((l.take i).flatMap ObsT.cells).toArray w.drew := by
    rw [hz1]
    refine run_firstCells_some w.drew 2 i ⟨g, 0, none⟩ i c _ htl (fun j v hj => ?_)
    have hjl : j < i * 2 := by
      rcases Nat.lt_or_ge j (i * 2) with h0 | h0
      · exact h0
      · rw [List.getElem?_eq_none (by rw [htl]; exact h0)] at hj; cases hj
    rw [hadd, Nat.zero_add]
    refine (hcell j (by omega)).trans ?_
    rw [← flat_take ObsT.cells_len, List.getElem?_take_of_lt hjl] at hj
    exact hj
  have hkk : (l.length : Int) + 1 - (i : Int) = ((l.length + 1 - i : Nat) : Int) := by omega
  have hik : i + (l.length + 1 - i) = l.length + 1 := by omega
  have hrz : ∀ ty, (Builtin.append_ #[26, 3] ty #[.slice (some ⟨g, 0, none⟩) i c, .int .i64 ((l.length : Int) + 1 - (i : Int))]).run Try.prog w = .ok (.slice (some ⟨w.heap.size, 0, none⟩) (l.length + 1) (grownCap w (l.length + 1) c 77)) (w.drew.alloc (.cells (((l.take i).flatMap ObsT.cells).toArray ++ Builtin.zeroCells (.agg #[.string ⟨#[]⟩, .int .i64 0] : Value).cells (l.length + 1 - i) ++ Builtin.zeroCells (.agg #[.string ⟨#[]⟩, .int .i64 0] : Value).cells (grownCap w (l.length + 1) c 77 - (l.length + 1))) 77)) := fun ty => by
    have h := Lib.run_append_grow_zeros w 26 3 ty 77 i0 _ .i64 .i64 Try.underlying26 Try.underlying3 hi0 hz0 (some ⟨g, 0, none⟩) i c _ hold (l.length + 1 - i) (by omega) (by omega) (by omega) (by omega) (by rw [hz2]; omega) (by rw [hz2, hik]; exact growslice_fits hc (by omega))
    rw [hik] at h
    rw [hkk]
    exact h
  obtain ⟨G, hG⟩ : ∃ G, G = grownCap w (l.length + 1) c 77 := ⟨_, rfl⟩
  have hG1 : l.length + 1 ≤ G := hG ▸ grownCap_ge _ _ _ _
  have hG2 : G ≤ maxLen := hG ▸ grownCap_le_maxLen _ _ _ _ (by unfold maxLen; omega)
  rw [← hG] at hrz
  obtain ⟨ROW, hROW⟩ : ∃ ROW : Array Value, ROW = ((l.take i).flatMap ObsT.cells).toArray ++ Builtin.zeroCells (.agg #[.string ⟨#[]⟩, .int .i64 0] : Value).cells (l.length + 1 - i) ++ Builtin.zeroCells (.agg #[.string ⟨#[]⟩, .int .i64 0] : Value).cells (G - (l.length + 1)) := ⟨_, rfl⟩
  rw [← hROW] at hrz
  have hRs : ROW.size = G * 2 := by
    have hz : (.agg #[.string ⟨#[]⟩, .int .i64 0] : Value).cells.size = 2 := by decide
    rw [hROW, Array.size_append, Array.size_append, size_zeroCells, size_zeroCells, hz]
    simp only [List.size_toArray, htl]
    omega
  have hRt : ROW.toList.take (i * 2) = (l.take i).flatMap ObsT.cells := by
    rw [hROW]
    simp only [Array.toList_append, List.append_assoc]
    exact List.take_left' htl
  obtain ⟨W1, hW1⟩ : ∃ W1, W1 = w.drew.alloc (.cells ROW 77) := ⟨_, rfl⟩
  rw [← hW1] at hrz
  have hgw : g < w.heap.size := hB.lt
  have hvw : vb < w.heap.size := hv.lt
  have hB1 : Bk W1 w.heap.size 77 ROW := by rw [hW1]; exact Bk.new w.drew 77 ROW
  have hO1 : Bk W1 g 77 cur := by rw [hW1]; exact Bk.alloc (w := w.drew) hB _
  have hv1 : Bk W1 vb 77 #[.string x.name, .int .i64 x.shift] := by rw [hW1]; exact Bk.alloc (w := w.drew) hv _
  obtain ⟨C1, hC1⟩ : ∃ C1, C1 = (ROW.toList.take (i * 2) ++ ObsT.cells x ++ ROW.toList.drop (i * 2 + (ObsT.cells x).length)).toArray := ⟨_, rfl⟩
  have hcp1 : ∀ ty dc, (Builtin.copy_ #[26, 26] ty #[.slice (some ⟨w.heap.size, i * 2, none⟩) (l.length + 1 - i) dc, .slice (some ⟨vb, 0, none⟩) 1 1]).run Try.prog W1 = .ok (goInt ((1 : Nat) : Int)) (W1.setRow w.heap.size C1) := fun ty dc => by
    rw [hC1]
    exact run_copy_K 2 W1 26 26 ty 77 w.heap.size (i * 2) (l.length + 1 - i) dc ⟨vb, 0, none⟩ 1 1 1 ROW 77 _ Try.underlying26 hsz hB1 (by simp only [Nat.min_def]; split <;> omega) rfl (fun j v hj => by rw [hadd, Nat.zero_add, hv1.cell]; simpa [ObsT.cells] using hj) (by rw [hRs]; simp only [ObsT.cells_len]; omega) (oneCO x)
  have hs1 : C1.size = G * 2 := by rw [hC1, ins_size (by rw [hRs]; simp only [ObsT.cells_len]; omega), hRs]
  obtain ⟨W2, hW2⟩ : ∃ W2, W2 = (W1.setRow w.heap.size C1).drew := ⟨_, rfl⟩
  have hB2 : Bk W2 w.heap.size 77 C1 := by rw [hW2]; exact hB1.row C1
  have hO2 : Bk W2 g 77 cur := by rw [hW2]; exact hO1.row_far (by omega) C1
  have hsrc : ∀ j v, ((l.drop i).flatMap ObsT.cells)[j]? = some v → W2.cell? ((⟨g, i * 2, none⟩ : Addr).add j) = some v := fun j v hj => by
    have hlt : i * 2 + j < l.length * 2 := by
      rcases Nat.lt_or_ge j ((l.length - i) * 2) with h0 | h0
      · omega
      · rw [List.getElem?_eq_none (by rw [hdl]; exact h0)] at hj; cases hj
    rw [hadd, hO2.cell]
    rw [← flat_drop ObsT.cells_len, List.getElem?_drop, ← ht, List.getElem?_take_of_lt hlt] at hj
    simpa using hj
  have hcp2 : ∀ ty dc sc, (Builtin.copy_ #[26, 26] ty #[.slice (some ⟨w.heap.size, (i + 1) * 2, none⟩) (l.length - i) dc, .slice (some ⟨g, i * 2, none⟩) (l.length - i) sc]).run Try.prog W2 = .ok (goInt ((l.length - i : Nat) : Int)) (W2.setRow w.heap.size (C1.toList.take (i * 2 + 2) ++ (l.drop i).flatMap ObsT.cells ++ C1.toList.drop (i * 2 + 2 + ((l.drop i).flatMap ObsT.cells).length)).toArray) := fun ty dc sc => by
    have e : (i + 1) * 2 = i * 2 + 2 := by omega
    rw [e]
    exact run_copy_K 2 W2 26 26 ty 77 w.heap.size (i * 2 + 2) (l.length - i) dc ⟨g, i * 2, none⟩ (l.length - i) sc (l.length - i) C1 77 _ Try.underlying26 hsz hB2 (by simp only [Nat.min_def]; split <;> omega) hdl hsrc (by rw [hdl, hs1]; omega) oneO
  obtain ⟨C2, hC2⟩ : ∃ C2, C2 = (C1.toList.take (i * 2 + 2) ++ (l.drop i).flatMap ObsT.cells ++ C1.toList.drop (i * 2 + 2 + ((l.drop i).flatMap ObsT.cells).length)).toArray := ⟨_, rfl⟩
  rw [← hC2] at hcp2
  have HRES := hide (show Own (W2.setRow w.heap.size C2) lo 77 2 (some ⟨w.heap.size, 0, none⟩) (l.length + 1) G ((insL l i x).flatMap ObsT.cells) from by
    refine Own.mk_ (by rw [flat_len ObsT.cells 2 ObsT.cells_len, insL_len (by omega)]) hG1 hG2 hlo (hB2.row _) (by rw [hC2, ins_size (by rw [hdl, hs1]; omega), hs1]) ?_
    have k1 := ins_up (cur := ROW) (a := i * 2) (b := 2) (xs := ObsT.cells x) (ys := (l.drop i).flatMap ObsT.cells) hRt htl rfl (by rw [hdl, hRs]; omega)
    rw [insL_flat, hdl] at k1
    rw [hC2, hC1, hdl, show (l.length + 1) * 2 = i * 2 + 2 + (l.length - i) * 2 from by omega]
    exact k1)
  have HG := hide (show w.grownBy (W2.setRow w.heap.size C2) (some g) from by
    have b1 : Below w.heap.size w W1 := by rw [hW1]; exact ((Below.refl _ w).drew).alloc (Nat.le_refl _) _
    have b2 : Below w.heap.size w W2 := by rw [hW2]; exact (below_setRow b1 (Nat.le_refl _) C1).drew
    have b3 := below_setRow b2 (Nat.le_refl _) C2
    exact ⟨b3.os, b3.tape, b3.output, b3.size, fun j hj _ => b3.block j hj⟩)
  subst hW2
  have HRZ := hide hrz
  have HC1 := hide hcp1
  have HC2 := hide hcp2
  have hW1' : w.drew.alloc (.cells ROW 77) = (w.alloc (.cells ROW 77)).drew := rfl
  have hz1' : ¬ ((i : Int) = (l.length : Int)) := by omega
  have hw1 : IntKind.i64.wrap ((i : Int) + 1) = (i : Int) + 1 := by rw [IntKind.wrap_i64]; omega
  have hb1 : (0 : Int) ≤ (i : Int) + 1 := by omega
  have hin : i ≤ l.length := by omega
  have htn : ((i : Int) + 1).toNat = i + 1 := by omega
  have hb3 : (i : Int) ≤ (l.length : Int) := by omega
  have hb4 : ¬ (c = i) := by omega
  have hGi : ¬ (G = i) := by omega
  have hGim : ¬ (G = i + 1) := by omega
  have hcc : (c : Int) < (l.length : Int) + 1 := by omega
  have hc63 : c ≤ 9223372036854775807 := by unfold maxLen at h3; omega
  have hG63 : G ≤ 9223372036854775807 := by unfold maxLen at hG2; omega
  clear ho hv hB hs ht hdl htl hck hadd hcell hold hkk hik hG hROW hRs hRt hW1 hgw hvw hB1 hO1 hv1 hC1 hs1 hB2 hO2 hsrc hC2 hcp1 hcp2 hrz hW1'
  go_enter Try.func130, Try.ntmps130
  go_wp2_with (at_builtin; refine Lib.wpList_append_run _ rfl _ _ _ _ rfl _ _ rfl rfl _ _ (HRZ.out _) ?_)
  go_wp2_with fail
  rw [HC1.out]
  go_wp2_with fail
  go_region_law (refine step_copy_runI rfl _ _ 26 26 rfl (.slice (some ⟨w.heap.size, (i + 1) * 2, none⟩) (l.length - i) (G - (i + 1))) (.slice (some ⟨g, i * 2, none⟩) (l.length - i) (c - i)) (by simp [Act.eval, Act.put]) (by simp [Act.eval, Act.put]) (HC2.out _ _ _) ?_)
  go_wp2
  go_ret
  exact ⟨_, _, rfl, HRES.out, HG.out⟩
theorem insO_end : True := trivial
end Go.Proofs.Ytldgelkgobocdaa
