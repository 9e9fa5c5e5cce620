/-
  Contracts: the differences of two observers, and their median.
-/
import Derived.Test.YtdbfebhmldbdbaaMedC
import Derived.Test.YtdbfebhmldbdbaaCom
import Derived.RangeFuncBox
namespace Go.Proofs.Ytdbfebhmldbdbaa
open Go.RowKit Pl
set_option linter.unusedVariables false
set_option linter.unusedSimpArgs false
def dif (a b : Int) (x : ComT) : List Int := if x.a = a ∧ x.b = b then [x.diff] else if x.a = b ∧ x.b = a then [-x.diff] else []
def dfs (a b : Int) (l : List ComT) : List Int := l.flatMap (dif a b)
theorem dif_len (a b : Int) (x : ComT) : (dif a b x).length ≤ 1 := by unfold dif; split <;> (try split) <;> simp
theorem dfs_len (a b : Int) (l : List ComT) : (dfs a b l).length ≤ l.length := by
  induction l with
  | nil => simp [dfs]
  | cons x l ih => have := dif_len a b x; simp only [dfs, List.flatMap_cons, List.length_append, List.length_cons] at ih ⊢; omega
theorem dfs_next {a b : Int} {l : List ComT} {k : Nat} (hk : k < l.length) : dfs a b (l.take (k + 1)) = dfs a b (l.take k) ++ dif a b l[k] := by
  unfold dfs; rw [List.take_succ_eq_append_getElem hk, List.flatMap_append]; simp only [List.flatMap_cons, List.flatMap_nil, List.append_nil]
theorem dfs_bd {a b : Int} {l : List ComT} (h : ∀ i (hi : i < l.length), -2000 ≤ l[i].diff ∧ l[i].diff ≤ 2000) : ∀ x ∈ dfs a b l, -2000 ≤ x ∧ x ≤ 2000 := by
  intro x hx
  simp only [dfs, List.mem_flatMap] at hx
  obtain ⟨y, hy, hx⟩ := hx
  obtain ⟨t, ht, rfl⟩ := List.getElem_of_mem hy
  have := h t ht
  unfold dif at hx
  split at hx
  · simp at hx; omega
  · split at hx
    · simp at hx; omega
    · cases hx
def ComsOk (l : List ComT) : Prop := l.length ≤ 60 ∧ ∀ i (hi : i < l.length), l[i].a ≠ l[i].b ∧ -2000 ≤ l[i].diff ∧ l[i].diff ≤ 2000
theorem row_fit {w : World} {lo k n m : Nat} {E : TypeId} {v : Value} {xs ys : List Value} (h : w.ownsRow lo E k v n xs) (hn : n = m) (hx : xs = ys) : w.ownsRow lo E k v m ys := by subst hn hx; exact h
set_option maxHeartbeats 4000000 in
set_option maxRecDepth 100000 in
theorem l05Diffs_any (A : Option Addr) (c : Nat) (l : List ComT) (a b : Int) (w : World) (hab : a ≠ b) (hl : ComsOk l) (hr : Rd w w.heap.size 3 A l.length (l.flatMap ComT.cells)) :
    Calls Try.prog 29 #[.slice A l.length c, .int .i64 a, .int .i64 b] w fun e w' => ∃ A' c', e = .returned (.slice A' (dfs a b l).length c') ∧ Own w' w.heap.size 2 1 A' (dfs a b l).length c' (ints (dfs a b l)) ∧ Below w.heap.size w w' := by
  obtain ⟨i0, hi, hz0, hz1, hz2⟩ := info_parts info_i64
  have HR := hide hr
  have HL := hide hl
  have hl60 := hl.1
  clear hr hl
  go_enter Try.func29, Try.ntmps29
  go_wp2_with fail
  go_loopw [7, 8] (fun v i wr => ∃ k : Nat, k ≤ l.length ∧ i = .int .i64 k ∧ Below w.heap.size w wr ∧ ∃ u, v = u ∧ wr.ownsRow w.heap.size 2 1 u (dfs a b (l.take k)).length (ints (dfs a b (l.take k)))) (fun _ i _ => l.length - (intOf i).toNat)
  case atStart => exact ⟨0, by omega, rfl, (Below.refl _ _).alloc (Nat.le_refl _) _, _, rfl, Own.empty_ _ _ _ (Nat.le_refl _)⟩
  case round =>
    obtain ⟨k, hk, rfl, hb, u, rfl, hown⟩ := hrel
    have Hb := hide hb
    by_cases hlt : k < l.length
    · obtain ⟨g, off, rfl, hg, hc⟩ := HR.out.elem ComT.cells_len hlt
      have c0 : w.cell? ⟨g, off + k * 3, none⟩ = some (.int .i64 l[k].a) := hc 0 _ rfl
      have c1 : w.cell? ⟨g, off + k * 3 + 1, none⟩ = some (.int .i64 l[k].b) := hc 1 _ rfl
      have c2 : w.cell? ⟨g, off + k * 3 + 2, none⟩ = some (.int .i64 l[k].diff) := hc 2 _ rfl
      have f0 : wr.cell? ⟨g, off + k * 3, none⟩ = some (.int .i64 l[k].a) := (hb.cell (p := ⟨g, off + k * 3, none⟩) hg).trans c0
      have f1 : wr.cell? ⟨g, off + k * 3 + 1, none⟩ = some (.int .i64 l[k].b) := (hb.cell (p := ⟨g, off + k * 3 + 1, none⟩) hg).trans c1
      have f2 : wr.cell? ⟨g, off + k * 3 + 2, none⟩ = some (.int .i64 l[k].diff) := (hb.cell (p := ⟨g, off + k * 3 + 2, none⟩) hg).trans c2
      have i1 : (0 : Int) ≤ (k : Int) := by omega
      have i2 : (k : Int) < (l.length : Int) := by omega
      obtain ⟨hx1, hx2, hx3⟩ := HL.out.2 k hlt
      clear hc hb
      by_cases e1 : l[k].a = a
      · have d1 : (l[k].a == a) = true := by simp [e1]
        have d1' : (l[k].a == b) = false := by simp; omega
        by_cases e2 : l[k].b = b
        · have d2 : (l[k].b == b) = true := by simp [e2]
          have HN := hide (show dfs a b (l.take (k + 1)) = dfs a b (l.take k) ++ [l[k].diff] from by rw [dfs_next hlt]; congr 1; simp [dif, e1, e2])
          have hdl := dfs_len a b (l.take k)
          have hdk : (l.take k).length ≤ k := by simp; omega
          have HAD := hide hdl
          go_wp2_with (at_builtin; refine wpList_append_own _ rfl _ _ 22 rfl w.heap.size 2 i0 (.int .i64 0) 1 8 Try.underlying22 hi hz0 hz1 hz2 rfl (by decide) _ _ _ rfl (hown.alloc _) ⟨wr.heap.size, 0, none⟩ 1 1 [.int .i64 (l[k].diff)] rfl rfl (cell_one_new _ _ _) (by simp [Value.oneCell']) (by unfold maxLen; omega) (by omega) (by have := Hb.out.size; simp; omega) ?_; intro v' w1 hown' hgrow _; obtain ⟨g', cap', rfl⟩ := ownsRow_succ hown'; have HB2 := hide (show Below w.heap.size w w1 from (Hb.out.alloc Hb.out.size _).grown hgrow (by have := Hb.out.size; simp; omega) (fun q hq => (World.ownsRow.lt hown q hq).1)); have HO2 := hide (show w1.ownsRow w.heap.size 2 1 (.slice (some ⟨g', 0, none⟩) ((dfs a b (l.take k)).length + 1) cap') (dfs a b (l.take (k + 1))).length (ints (dfs a b (l.take (k + 1)))) from row_fit hown' (by rw [HN.out]; simp) (by rw [HN.out, ints_app]; rfl)); clear hown' hgrow; have f0 := (HB2.out.cell (p := ⟨g, off + k * 3, none⟩) hg).trans c0; have f1 := (HB2.out.cell (p := ⟨g, off + k * 3 + 1, none⟩) hg).trans c1; have f2 := (HB2.out.cell (p := ⟨g, off + k * 3 + 2, none⟩) hg).trans c2)
          go_roundw
          case rel => exact ⟨k + 1, by omega, by go_num, HB2.out, _, rfl, HO2.out⟩
          case measure => simp [intOf]; omega
        · have d2 : (l[k].b == b) = false := by simp; omega
          have HN := hide (show dfs a b (l.take (k + 1)) = dfs a b (l.take k) from by rw [dfs_next hlt]; rw [show dif a b l[k] = [] from by unfold dif; rw [if_neg (by omega), if_neg (by omega)]]; simp)
          go_wp2
          go_roundw
          case rel => exact ⟨k + 1, by omega, by go_num, Hb.out, _, rfl, by rw [HN.out]; exact hown⟩
          case measure => simp [intOf]; omega
      · have d1 : (l[k].a == a) = false := by simp; omega
        by_cases e2 : l[k].a = b
        · have d2 : (l[k].a == b) = true := by simp [e2]
          by_cases e3 : l[k].b = a
          · have d3 : (l[k].b == a) = true := by simp [e3]
            have hneg : IntKind.i64.wrap (-l[k].diff) = -l[k].diff := by rw [IntKind.wrap_i64]; omega
            have HN := hide (show dfs a b (l.take (k + 1)) = dfs a b (l.take k) ++ [-l[k].diff] from by rw [dfs_next hlt]; congr 1; unfold dif; rw [if_neg (by omega), if_pos (by omega)])
            have hdl := dfs_len a b (l.take k)
            have hdk : (l.take k).length ≤ k := by simp; omega
            have HAD := hide hdl
            go_wp2_with (at_builtin; refine wpList_append_own _ rfl _ _ 22 rfl w.heap.size 2 i0 (.int .i64 0) 1 8 Try.underlying22 hi hz0 hz1 hz2 rfl (by decide) _ _ _ rfl (hown.alloc _) ⟨wr.heap.size, 0, none⟩ 1 1 [.int .i64 (-l[k].diff)] rfl rfl (cell_one_new _ _ _) (by simp [Value.oneCell']) (by unfold maxLen; omega) (by omega) (by have := Hb.out.size; simp; omega) ?_; intro v' w1 hown' hgrow _; obtain ⟨g', cap', rfl⟩ := ownsRow_succ hown'; have HB2 := hide (show Below w.heap.size w w1 from (Hb.out.alloc Hb.out.size _).grown hgrow (by have := Hb.out.size; simp; omega) (fun q hq => (World.ownsRow.lt hown q hq).1)); have HO2 := hide (show w1.ownsRow w.heap.size 2 1 (.slice (some ⟨g', 0, none⟩) ((dfs a b (l.take k)).length + 1) cap') (dfs a b (l.take (k + 1))).length (ints (dfs a b (l.take (k + 1)))) from row_fit hown' (by rw [HN.out]; simp) (by rw [HN.out, ints_app]; rfl)); clear hown' hgrow; have f0 := (HB2.out.cell (p := ⟨g, off + k * 3, none⟩) hg).trans c0; have f1 := (HB2.out.cell (p := ⟨g, off + k * 3 + 1, none⟩) hg).trans c1; have f2 := (HB2.out.cell (p := ⟨g, off + k * 3 + 2, none⟩) hg).trans c2)
            go_roundw
            case rel => exact ⟨k + 1, by omega, by go_num, HB2.out, _, rfl, HO2.out⟩
            case measure => simp [intOf]; omega
          · have d3 : (l[k].b == a) = false := by simp; omega
            have HN := hide (show dfs a b (l.take (k + 1)) = dfs a b (l.take k) from by rw [dfs_next hlt]; rw [show dif a b l[k] = [] from by unfold dif; rw [if_neg (by omega), if_neg (by omega)]]; simp)
            go_wp2
            go_roundw
            case rel => exact ⟨k + 1, by omega, by go_num, Hb.out, _, rfl, by rw [HN.out]; exact hown⟩
            case measure => simp [intOf]; omega
        · have d2 : (l[k].a == b) = false := by simp; omega
          have HN := hide (show dfs a b (l.take (k + 1)) = dfs a b (l.take k) from by rw [dfs_next hlt]; rw [show dif a b l[k] = [] from by unfold dif; rw [if_neg (by omega), if_neg (by omega)]]; simp)
          go_wp2
          go_roundw
          case rel => exact ⟨k + 1, by omega, by go_num, Hb.out, _, rfl, by rw [HN.out]; exact hown⟩
          case measure => simp [intOf]; omega
    · obtain rfl : k = l.length := by omega
      have HE := hide (show dfs a b (l.take l.length) = dfs a b l from by rw [List.take_length])
      rw [List.take_length] at hown
      obtain ⟨A', c', rfl, hown2⟩ := own_cases hown
      go_wp2
      go_ret
      exact ⟨A', c', rfl, hown2, Hb.out⟩
theorem MD1_any (o d a : Int) (lo ga gd : Nat) (u : Value) (l : List Int) (w : World) (hlen : l.length ≤ 1048576) (hlo : lo ≤ w.heap.size) (hlg : lo ≤ gd) (hc : w.cell? ⟨ga, 0, none⟩ = some (.int .i64 a)) (hv : Boxed w gd 22 u) (hrow : w.ownsRow lo 2 1 u l.length (ints l)) :
    Calls Try.prog 34 #[.int .i64 o, .int .i64 d, .pointer (some ⟨ga, 0, none⟩), .pointer (some ⟨gd, 0, none⟩)] w fun e w' => e = .returned (.tuple #[]) ∧ Below lo w w' ∧ ∃ u', Boxed w' gd 22 u' ∧ w'.ownsRow lo 2 1 u' (if o = a then l ++ [d] else l).length (ints (if o = a then l ++ [d] else l)) := by
  obtain ⟨i0, hi, hz0, hz1, hz2⟩ := info_parts info_i64
  obtain ⟨A0, c0, rfl, _⟩ := own_cases hrow
  have hcg := hv.cell
  have hfg := hv.frozen
  have HV := hide hv
  by_cases e1 : o = a
  · have d1 : (o == a) = true := by simp [e1]
    have hd1 : decide (o = a) = true := by simp [e1]
    rw [if_pos e1]
    clear hv
    go_enter Try.func34, Try.ntmps34
    go_wp2_with (at_builtin; refine wpList_append_own _ rfl _ _ 22 rfl lo 2 i0 (.int .i64 0) 1 8 Try.underlying22 hi hz0 hz1 hz2 rfl (by decide) _ _ _ rfl (hrow.alloc _) ⟨w.heap.size, 0, none⟩ 1 1 [.int .i64 d] rfl rfl (cell_one_new _ _ _) (by simp [Value.oneCell']) (by unfold maxLen; omega) (by omega) (by simp; omega) ?_; intro v' w1 hown' hgrow _; obtain ⟨g', cap', rfl⟩ := ownsRow_succ hown'; obtain ⟨hv1, hv2, hr2, hk2, hb2⟩ := HV.out.appended (by decide) hrow hlo hlg hown' hgrow; have hc1 := hv1.cell; have hf1 := hv1.frozen)
    go_end0
    exact ⟨rfl, hb2, _, hv2, row_fit hr2 (by simp) (by rw [ints_app]; rfl)⟩
  · have d1 : (o == a) = false := by simp [e1]
    rw [if_neg e1]
    clear hv
    go_enter Try.func34, Try.ntmps34
    go_wp2
    go_end0
    exact ⟨rfl, Below.refl _ _, _, HV.out, hrow⟩
theorem dif_p {a b : Int} {x : ComT} (hab : a ≠ b) (hx : x.a ≠ x.b) (e : b = x.b) (L : List Int) : (if x.a = a then L ++ [x.diff] else L) = L ++ dif a b x := by
  unfold dif
  by_cases h : x.a = a
  · rw [if_pos h, if_pos ⟨h, e.symm⟩]
  · rw [if_neg h, if_neg (by omega), if_neg (by omega)]; simp
theorem dif_q {a b : Int} {x : ComT} (hab : a ≠ b) (hx : x.a ≠ x.b) (e : b = x.a) (L : List Int) : (if x.b = a then L ++ [-x.diff] else L) = L ++ dif a b x := by
  unfold dif
  by_cases h : x.b = a
  · rw [if_pos h, if_neg (by omega), if_pos ⟨e.symm, h⟩]
  · rw [if_neg h, if_neg (by omega), if_neg (by omega)]; simp
theorem comsOk {n : Int} {l : List ComT} (h : comsB n l = true) : ComsOk l := by
  obtain ⟨_, _, h3, h4⟩ := coms_true h
  exact ⟨h3, fun i hi => by obtain ⟨_, _, _, _, h5, h6, h7⟩ := h4 i hi; exact ⟨h5, h6, h7⟩⟩
set_option maxHeartbeats 4000000 in
set_option maxRecDepth 100000 in
theorem against_any (A : Option Addr) (c : Nat) (l : List ComT) (a b : Int) (lo ga gd : Nat) (u0 : Value) (w : World) (hab : a ≠ b) (hl : ComsOk l) (hlo : lo ≤ w.heap.size) (hlg : lo ≤ gd) (hga : ga < lo) (hc : w.cell? ⟨ga, 0, none⟩ = some (.int .i64 a)) (hv : Boxed w gd 22 u0) (hrow : w.ownsRow lo 2 1 u0 0 (ints [])) (hr : Rd w lo 3 A l.length (l.flatMap ComT.cells)) :
    Calls Try.prog 33 #[.slice A l.length c, .int .i64 b, .func (.func 34) #[] #[.pointer (some ⟨ga, 0, none⟩), .pointer (some ⟨gd, 0, none⟩)]] w fun e w' => e = .returned (.tuple #[]) ∧ Below lo w w' ∧ ∃ u', Boxed w' gd 22 u' ∧ w'.ownsRow lo 2 1 u' (dfs a b l).length (ints (dfs a b l)) := by
  have HR := hide hr
  have HL := hide hl
  have HC := hide hc
  have HV0 := hide hv
  have HW0 := hide hrow
  have hl60 := hl.1
  clear hr hl hc hv hrow
  go_enter Try.func33, Try.ntmps33
  go_wp2_with fail
  go_loopw [10] (fun i wr => ∃ k : Nat, k ≤ l.length ∧ i = .int .i64 k ∧ Below lo w wr ∧ ∃ u, Boxed wr gd 22 u ∧ wr.ownsRow lo 2 1 u (dfs a b (l.take k)).length (ints (dfs a b (l.take k)))) (fun i _ => l.length - (intOf i).toNat)
  case atStart => exact ⟨0, by omega, rfl, Below.refl _ _, u0, HV0.out, HW0.out⟩
  case round =>
    obtain ⟨k, hk, rfl, hb, u, hv, hown⟩ := hrel
    have Hb := hide hb
    by_cases hlt : k < l.length
    · obtain ⟨g, off, rfl, hg, hc⟩ := HR.out.elem ComT.cells_len hlt
      have f0 : wr.cell? ⟨g, off + k * 3, none⟩ = some (.int .i64 l[k].a) := (hb.cell (p := ⟨g, off + k * 3, none⟩) hg).trans (hc 0 _ rfl)
      have f1 : wr.cell? ⟨g, off + k * 3 + 1, none⟩ = some (.int .i64 l[k].b) := (hb.cell (p := ⟨g, off + k * 3 + 1, none⟩) hg).trans (hc 1 _ rfl)
      have f2 : wr.cell? ⟨g, off + k * 3 + 2, none⟩ = some (.int .i64 l[k].diff) := (hb.cell (p := ⟨g, off + k * 3 + 2, none⟩) hg).trans (hc 2 _ rfl)
      have i1 : (0 : Int) ≤ (k : Int) := by omega
      have i2 : (k : Int) < (l.length : Int) := by omega
      obtain ⟨hx1, hx2, hx3⟩ := HL.out.2 k hlt
      have hdl := dfs_len a b (l.take k)
      have hdk : (l.take k).length ≤ k := by simp; omega
      have hlen : (dfs a b (l.take k)).length ≤ 1048576 := by omega
      have HD := hide (dfs_next (a := a) (b := b) hlt)
      have HV := hide hv
      have HW := hide hown
      have hsl := Nat.le_trans hlo Hb.out.size
      clear hc hb hdl hdk hv hown
      by_cases e1 : b = l[k].b
      · have d1 : (b == l[k].b) = true := by simp [e1]
        have HE := hide (show (if l[k].a = a then dfs a b (l.take k) ++ [l[k].diff] else dfs a b (l.take k)) = dfs a b (l.take (k + 1)) from by rw [HD.out]; exact dif_p hab hx1 e1 _)
        first | clear e2 | clear e1
        go_wp2_with (go_at_call 34; refine (MD1_any _ _ a lo ga gd u _ _ hlen (by simp; omega) hlg (((Hb.out.alloc hsl _).cell (p := ⟨ga, 0, none⟩) hga).trans HC.out) (HV.out.alloc _) (HW.out.alloc _)).mono ?_; rintro e w' ⟨rfl, hb2, u', hv', hrow'⟩)
        go_roundw
        case rel => exact ⟨k + 1, by omega, by go_num, (Hb.out.alloc hsl _).trans hb2, u', hv', by rw [← HE.out]; exact hrow'⟩
        case measure => simp [intOf]; omega
      · have d1 : (b == l[k].b) = false := by simp; omega
        by_cases e2 : b = l[k].a
        · have d2 : (b == l[k].a) = true := by simp [e2]
          have hneg : IntKind.i64.wrap (-l[k].diff) = -l[k].diff := by rw [IntKind.wrap_i64]; omega
          have HE := hide (show (if l[k].b = a then dfs a b (l.take k) ++ [-l[k].diff] else dfs a b (l.take k)) = dfs a b (l.take (k + 1)) from by rw [HD.out]; exact dif_q hab hx1 e2 _)
          first | clear e2 | clear e1
          go_wp2_with (go_at_call 34; refine (MD1_any _ _ a lo ga gd u _ _ hlen (by simp; omega) hlg (((Hb.out.alloc hsl _).cell (p := ⟨ga, 0, none⟩) hga).trans HC.out) (HV.out.alloc _) (HW.out.alloc _)).mono ?_; rintro e w' ⟨rfl, hb2, u', hv', hrow'⟩)
          go_roundw
          case rel => exact ⟨k + 1, by omega, by go_num, (Hb.out.alloc hsl _).trans hb2, u', hv', by rw [← HE.out]; exact hrow'⟩
          case measure => simp [intOf]; omega
        · have d2 : (b == l[k].a) = false := by simp; omega
          have HE := hide (show dfs a b (l.take (k + 1)) = dfs a b (l.take k) from by rw [HD.out]; unfold dif; rw [if_neg (by omega), if_neg (by omega)]; simp)
          go_wp2
          go_roundw
          case rel => exact ⟨k + 1, by omega, by go_num, Hb.out.alloc hsl _, u, HV.out.alloc _, by rw [HE.out]; exact HW.out.alloc _⟩
          case measure => simp [intOf]; omega
    · obtain rfl : k = l.length := by omega
      rw [List.take_length] at hown
      go_wp2
      go_end0
      exact ⟨rfl, Hb.out, u, hv, hown⟩
theorem medD_end : True := trivial
end Go.Proofs.Ytdbfebhmldbdbaa
