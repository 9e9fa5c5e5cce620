/-
  Contracts: the closure of the rounds.
-/
import Derived.Test.YtdbfebhmldbdbaaRou
import Derived.Deep.RegionHeld3
import Derived.Deep.RegionLaw
namespace Go.Proofs.Ytdbfebhmldbdbaa
open Go.RowKit Pl
set_option linter.unusedVariables false
set_option linter.unusedSimpArgs false
set_option maxHeartbeats 2000000 in
set_option maxRecDepth 100000 in
theorem spread1_no (q : Nat) (d : Int) (lo gb gd gs rb ob n c1 : Nat) (w : World) (hq : q < n) (hc1 : w.cell? ⟨gb, 0, none⟩ = some (.slice (some ⟨rb, ob, none⟩) n c1)) (hk : w.cell? ⟨rb, ob + q, none⟩ = some (.bool false)) :
    Calls Try.prog 49 #[.int .i64 q, .int .i64 d, .pointer (some ⟨gb, 0, none⟩), .pointer (some ⟨gd, 0, none⟩), .pointer (some ⟨gs, 0, none⟩)] w fun e w' => e = .returned (.tuple #[]) ∧ w = w' := by
  have i1 : (0 : Int) ≤ (q : Int) := by omega
  have i2 : (q : Int) < (n : Int) := by omega
  go_enter Try.func49, Try.ntmps49
  go_wp2
  go_end0
  exact ⟨rfl, rfl⟩
set_option maxHeartbeats 4000000 in
set_option maxRecDepth 100000 in
theorem spread1_yes (q : Nat) (d y : Int) (lo gb gd gs rb ob rs os n c1 c2 : Nat) (u : Value) (l : List Int) (w : World) (hq : q < n) (hlen : l.length ≤ 1048576) (hlo : lo ≤ w.heap.size) (hlg : lo ≤ gd) (hgs : gs < lo) (hrs : rs < lo)
    (hc1 : w.cell? ⟨gb, 0, none⟩ = some (.slice (some ⟨rb, ob, none⟩) n c1)) (hk : w.cell? ⟨rb, ob + q, none⟩ = some (.bool true))
    (hc2 : w.cell? ⟨gs, 0, none⟩ = some (.slice (some ⟨rs, os, none⟩) n c2)) (hs : w.cell? ⟨rs, os + q, none⟩ = some (.int .i64 y)) (hw : IntKind.i64.wrap (y - d) = y - d)
    (hv : Boxed w gd 22 u) (hrow : w.ownsRow lo 2 1 u l.length (ints l)) :
    Calls Try.prog 49 #[.int .i64 q, .int .i64 d, .pointer (some ⟨gb, 0, none⟩), .pointer (some ⟨gd, 0, none⟩), .pointer (some ⟨gs, 0, none⟩)] w fun e w' => e = .returned (.tuple #[]) ∧ Below lo w w' ∧ ∃ u', Boxed w' gd 22 u' ∧ w'.ownsRow lo 2 1 u' (l ++ [y - d]).length (ints (l ++ [y - d])) := by
  obtain ⟨i0, hi, hz0, hz1, hz2⟩ := info_parts info_i64
  obtain ⟨A0, c0, rfl, hown⟩ := own_cases hrow
  have hcg := hv.cell
  have hfg := hv.frozen
  have HV := hide hv
  have i1 : (0 : Int) ≤ (q : Int) := by omega
  have i2 : (q : Int) < (n : Int) := by omega
  have hgl : gs < w.heap.size := by omega
  have hrl : rs < w.heap.size := by omega
  have ns : ∀ b, b < lo → some b ≠ (Value.slice A0 l.length c0).ownBlock := fun b hb e => by have := (World.ownsRow.lt hrow b e.symm).1; omega
  have hdl := hv.lt
  have n1 := World.new_ne w ⟨gd, 0, none⟩ hcg
  have n2 := World.new_ne w ⟨gs, 0, none⟩ hc2
  have n3 := World.new_ne w ⟨rs, os + q, none⟩ hs
  have NS := hide (ns gs hgs)
  have NR := hide (ns rs hrs)
  clear hv ns
  go_enter Try.func49, Try.ntmps49
  go_wp2_with fail
  go_region_law (refine step_append_lies _ (by rfl) _ _ _ (by rfl) lo 2 i0 _ 1 8 Try.underlying22 hi hz0 hz1 hz2 rfl (by omega) (.slice A0 l.length c0) l.length (ints l) (by rfl) ((hown.alloc _).drew) ⟨w.heap.size, 0, none⟩ 1 1 [.int .i64 (y - d)] (by rfl) (by rfl) (World.news_of_block (cs := #[.int .i64 (y - d)]) (t := 2) (fr := (0, 0)) (heap_alloc_new w _)) (by simp [Value.oneCell']) (by omega) (by unfold maxLen; omega) (by omega) (by simp; omega) (w.heap.size + 1) (by simp) ?_; intro gg cap w5 hown1 hgrow hat hlt9; obtain ⟨hv1, hv2, hr2, hk2, hb2⟩ := (show Boxed w.drew gd 22 _ from HV.out).appended (by decide) (show (w.drew).ownsRow lo 2 1 _ _ _ from hrow) hlo hlg hown1 (tmp := .cells #[.int .i64 (y - d)] 2) hgrow; have x1 := hv1.cell; have x2 := hv1.frozen; skip)
  all_goals
    go_wp2
    go_end0
    exact ⟨rfl, ((Below.refl lo w).drew).trans hb2, _, hv2, row_fit hr2 (by simp) (by rw [ints_app]; rfl)⟩
/-- What the closure finds: the two boxes and the two rows. -/
structure Sees (w : World) (lo gb gs rb ob rs os n c1 c2 : Nat) (sh : List Int) (kn : List Bool) : Prop where
  lgb : gb < lo
  lgs : gs < lo
  lrb : rb < lo
  lrs : rs < lo
  b : w.cell? ⟨gb, 0, none⟩ = some (.slice (some ⟨rb, ob, none⟩) n c1)
  s : w.cell? ⟨gs, 0, none⟩ = some (.slice (some ⟨rs, os, none⟩) n c2)
  k : ∀ a : Nat, a < n → w.cell? ⟨rb, ob + a, none⟩ = some (.bool (kat kn a))
  i : ∀ a : Nat, a < n → w.cell? ⟨rs, os + a, none⟩ = some (.int .i64 (sat sh a))
theorem Sees.below {w w' : World} {lo gb gs rb ob rs os n c1 c2 : Nat} {sh : List Int} {kn : List Bool} (h : Sees w lo gb gs rb ob rs os n c1 c2 sh kn) (hb : Below lo w w') : Sees w' lo gb gs rb ob rs os n c1 c2 sh kn :=
  ⟨h.lgb, h.lgs, h.lrb, h.lrs, (hb.cell (p := ⟨gb, 0, none⟩) h.lgb).trans h.b, (hb.cell (p := ⟨gs, 0, none⟩) h.lgs).trans h.s, fun a ha => (hb.cell (p := ⟨rb, ob + a, none⟩) h.lrb).trans (h.k a ha), fun a ha => (hb.cell (p := ⟨rs, os + a, none⟩) h.lrs).trans (h.i a ha)⟩
theorem spread1_any (o d B : Int) (lo gb gd gs rb ob rs os n c1 c2 : Nat) (sh : List Int) (kn : List Bool) (u : Value) (l : List Int) (w : World) (h0 : 0 ≤ o) (hn : o < n) (hlen : l.length ≤ 1048576) (hlo : lo ≤ w.heap.size) (hlg : lo ≤ gd) (H : Sees w lo gb gs rb ob rs os n c1 c2 sh kn) (hB : shB B sh) (hB2 : B ≤ 1000000) (hd : -2000 ≤ d ∧ d ≤ 2000) (hv : Boxed w gd 22 u) (hrow : w.ownsRow lo 2 1 u l.length (ints l)) :
    Calls Try.prog 49 #[.int .i64 o, .int .i64 d, .pointer (some ⟨gb, 0, none⟩), .pointer (some ⟨gd, 0, none⟩), .pointer (some ⟨gs, 0, none⟩)] w fun e w' => e = .returned (.tuple #[]) ∧ Below lo w w' ∧ ∃ u', Boxed w' gd 22 u' ∧ w'.ownsRow lo 2 1 u' (if kat kn o = true then l ++ [sat sh o - d] else l).length (ints (if kat kn o = true then l ++ [sat sh o - d] else l)) := by
  obtain ⟨q, rfl⟩ : ∃ q : Nat, o = (q : Int) := ⟨o.toNat, by omega⟩
  have hq : q < n := by omega
  have hk := H.k q hq
  cases h : kat kn q
  · rw [h] at hk
    refine (spread1_no q d lo gb gd gs rb ob n c1 w hq H.b hk).mono ?_
    rintro e w' ⟨rfl, rfl⟩
    exact ⟨rfl, Below.refl _ _, u, hv, hrow⟩
  · rw [h] at hk
    have hb := hB q
    exact spread1_yes q d (sat sh q) lo gb gd gs rb ob rs os n c1 c2 u l w hq hlen hlo hlg H.lgs H.lrs H.b hk H.s (H.i q hq) (by rw [IntKind.wrap_i64]; omega) hv hrow
theorem li_next {sh : List Int} {kn : List Bool} {b : Int} {l : List ComT} {k : Nat} (hk : k < l.length) : li (l.take (k + 1)) sh kn b = li (l.take k) sh kn b ++ liX sh kn b l[k] := by
  unfold li; rw [List.take_succ_eq_append_getElem hk, List.flatMap_append]; simp only [List.flatMap_cons, List.flatMap_nil, List.append_nil]
theorem li_len (sh : List Int) (kn : List Bool) (b : Int) : ∀ m : List ComT, (li m sh kn b).length ≤ m.length := by
  intro m
  induction m with
  | nil => simp [li]
  | cons x m ih =>
    have hx : (liX sh kn b x).length ≤ 1 := by unfold liX; split <;> split <;> (try split) <;> simp
    simp only [li, List.flatMap_cons, List.length_append, List.length_cons] at ih ⊢
    omega
theorem liX_p {sh : List Int} {kn : List Bool} {b : Int} {x : ComT} (e : b = x.b) (L : List Int) : (if kat kn x.a = true then L ++ [sat sh x.a - x.diff] else L) = L ++ liX sh kn b x := by
  unfold liX; rw [if_pos e]; split <;> simp
theorem liX_q {sh : List Int} {kn : List Bool} {b : Int} {x : ComT} (e1 : ¬ b = x.b) (e : b = x.a) (L : List Int) : (if kat kn x.b = true then L ++ [sat sh x.b - -x.diff] else L) = L ++ liX sh kn b x := by
  unfold liX; rw [if_neg e1, if_pos e]; split <;> simp
theorem liX_n {sh : List Int} {kn : List Bool} {b : Int} {x : ComT} (e1 : ¬ b = x.b) (e : ¬ b = x.a) (L : List Int) : L ++ liX sh kn b x = L := by
  unfold liX; rw [if_neg e1, if_neg e]; simp
set_option maxHeartbeats 4000000 in
set_option maxRecDepth 100000 in
theorem againstS_any (A : Option Addr) (c : Nat) (l : List ComT) (b B : Int) (lo gb gd gs rb ob rs os n c1 c2 : Nat) (sh : List Int) (kn : List Bool) (u0 : Value) (w : World) (hl60 : l.length ≤ 60) (hl : InR n l) (hlo : lo ≤ w.heap.size) (hlg : lo ≤ gd) (H : Sees w lo gb gs rb ob rs os n c1 c2 sh kn) (hB : shB B sh) (hB2 : B ≤ 1000000) (hv : Boxed w gd 22 u0) (hrow : w.ownsRow lo 2 1 u0 0 (ints [])) (hr : Rd w lo 3 A l.length (l.flatMap ComT.cells)) :
    Calls Try.prog 33 #[.slice A l.length c, .int .i64 b, .func (.func 49) #[] #[.pointer (some ⟨gb, 0, none⟩), .pointer (some ⟨gd, 0, none⟩), .pointer (some ⟨gs, 0, none⟩)]] w fun e w' => e = .returned (.tuple #[]) ∧ Below lo w w' ∧ ∃ u', Boxed w' gd 22 u' ∧ w'.ownsRow lo 2 1 u' (li l sh kn b).length (ints (li l sh kn b)) := by
  have HR := hide hr
  have HL := hide hl
  have HS := hide H
  have HBB := hide hB
  have HV0 := hide hv
  have HW0 := hide hrow
  clear hr hl H hv hrow hB
  go_enter Try.func33, Try.ntmps33
  go_wp2_with fail
  go_loopw [10] (fun i wr => ∃ k : Nat, k ≤ l.length ∧ i = .int .i64 k ∧ Below lo w wr ∧ ∃ u, Boxed wr gd 22 u ∧ wr.ownsRow lo 2 1 u (li (l.take k) sh kn b).length (ints (li (l.take k) sh kn b))) (fun i _ => l.length - (intOf i).toNat)
  case atStart => exact ⟨0, by omega, rfl, Below.refl _ _, u0, HV0.out, HW0.out⟩
  case round =>
    obtain ⟨k, hk, rfl, hb, u, hv, hown⟩ := hrel
    have Hb := hide hb
    by_cases hlt : k < l.length
    · obtain ⟨g, off, rfl, hg, hc⟩ := HR.out.elem ComT.cells_len hlt
      have f0 : wr.cell? ⟨g, off + k * 3, none⟩ = some (.int .i64 l[k].a) := (hb.cell (p := ⟨g, off + k * 3, none⟩) hg).trans (hc 0 _ rfl)
      have f1 : wr.cell? ⟨g, off + k * 3 + 1, none⟩ = some (.int .i64 l[k].b) := (hb.cell (p := ⟨g, off + k * 3 + 1, none⟩) hg).trans (hc 1 _ rfl)
      have f2 : wr.cell? ⟨g, off + k * 3 + 2, none⟩ = some (.int .i64 l[k].diff) := (hb.cell (p := ⟨g, off + k * 3 + 2, none⟩) hg).trans (hc 2 _ rfl)
      have i1 : (0 : Int) ≤ (k : Int) := by omega
      have i2 : (k : Int) < (l.length : Int) := by omega
      obtain ⟨ha1, ha2, hb1, hb3, hx1, hx2, hx3⟩ := HL.out l[k] (List.getElem_mem hlt)
      have hdl := li_len sh kn b (l.take k)
      have hdk : (l.take k).length ≤ k := by simp; omega
      have hlen : (li (l.take k) sh kn b).length ≤ 1048576 := by omega
      have HD := hide (li_next (sh := sh) (kn := kn) (b := b) hlt)
      have HV := hide hv
      have HW := hide hown
      have hsl := Nat.le_trans hlo Hb.out.size
      clear hc hb hdl hdk hv hown
      by_cases e1 : b = l[k].b
      · have d1 : (b == l[k].b) = true := by simp [e1]
        have HE := hide (show (if kat kn l[k].a = true then li (l.take k) sh kn b ++ [sat sh l[k].a - l[k].diff] else li (l.take k) sh kn b) = li (l.take (k + 1)) sh kn b from by rw [HD.out]; exact liX_p e1 _)
        first | clear e2 | clear e1
        go_wp2_with (go_at_call 49; refine (spread1_any _ _ B lo gb gd gs rb ob rs os n c1 c2 sh kn u _ _ (by omega) (by omega) hlen (by simp; omega) hlg (HS.out.below (Hb.out.alloc hsl _)) HBB.out hB2 (by omega) (HV.out.alloc _) (HW.out.alloc _)).mono ?_; rintro e w' ⟨rfl, hb2, u', hv', hrow'⟩)
        go_roundw
        case rel => exact ⟨k + 1, by omega, by go_num, (Hb.out.alloc hsl _).trans hb2, u', hv', by rw [← HE.out]; exact hrow'⟩
        case measure => simp [intOf]; omega
      · have d1 : (b == l[k].b) = false := by simp; omega
        by_cases e2 : b = l[k].a
        · have d2 : (b == l[k].a) = true := by simp [e2]
          have hneg : IntKind.i64.wrap (-l[k].diff) = -l[k].diff := by rw [IntKind.wrap_i64]; omega
          have HE := hide (show (if kat kn l[k].b = true then li (l.take k) sh kn b ++ [sat sh l[k].b - -l[k].diff] else li (l.take k) sh kn b) = li (l.take (k + 1)) sh kn b from by rw [HD.out]; exact liX_q e1 e2 _)
          first | clear e2 | clear e1
          go_wp2_with (go_at_call 49; refine (spread1_any _ _ B lo gb gd gs rb ob rs os n c1 c2 sh kn u _ _ (by omega) (by omega) hlen (by simp; omega) hlg (HS.out.below (Hb.out.alloc hsl _)) HBB.out hB2 (by omega) (HV.out.alloc _) (HW.out.alloc _)).mono ?_; rintro e w' ⟨rfl, hb2, u', hv', hrow'⟩)
          go_roundw
          case rel => exact ⟨k + 1, by omega, by go_num, (Hb.out.alloc hsl _).trans hb2, u', hv', by rw [← HE.out]; exact hrow'⟩
          case measure => simp [intOf]; omega
        · have d2 : (b == l[k].a) = false := by simp; omega
          have HE := hide (show li (l.take (k + 1)) sh kn b = li (l.take k) sh kn b from by rw [HD.out]; exact liX_n e1 e2 _)
          go_wp2
          go_roundw
          case rel => exact ⟨k + 1, by omega, by go_num, Hb.out.alloc hsl _, u, HV.out.alloc _, by rw [HE.out]; exact HW.out.alloc _⟩
          case measure => simp [intOf]; omega
    · obtain rfl : k = l.length := by omega
      rw [List.take_length] at hown
      go_wp2
      go_end0
      exact ⟨rfl, Hb.out, u, hv, hown⟩
def bls (l : List Bool) : List Value := l.map Value.bool
theorem oneBl {l : List Bool} : ∀ u ∈ bls l, u.oneCell' = true := by
  intro u hu
  simp only [bls, List.mem_map] at hu
  obtain ⟨x, _, rfl⟩ := hu
  rfl
theorem info_bool : (Try.prog.info? 4).map (fun i => (i.zero, i.size, i.bytes)) = some (some (.bool false), 1, 1) := by kernel_rfl
set_option maxHeartbeats 1000000 in
theorem copyOfBool_any (g off c : Nat) (l : List Bool) (w : World) (hn : l.length ≤ 1048576) (hg : g < w.heap.size) (hr : ∀ t u, (bls l)[t]? = some u → w.cell? ⟨g, off + t, none⟩ = some u) :
    Calls Try.prog 48 #[.slice (some ⟨g, off, none⟩) l.length c] w fun e w' => ∃ A' c', e = .returned (.slice A' l.length c') ∧ Own w' w.heap.size 4 1 A' l.length c' (bls l) ∧ Below w.heap.size w w' := by
  obtain ⟨i0, hi, hz0, hz1, hz2⟩ := info_parts info_bool
  have HR := hide (show ∀ t u, (bls l)[t]? = some u → (w.alloc (.cells #[] 4)).cell? ((⟨g, off, none⟩ : Addr).add t) = some u from fun t u hu => by rw [add_lit']; exact (((Below.refl w.heap.size w).alloc (Nat.le_refl _) _).cell (p := ⟨g, off + t, none⟩) hg).trans (hr t u hu))
  clear hr
  go_enter Try.func48, Try.ntmps48
  go_wp2_with (at_builtin; refine wpList_append_own _ rfl _ _ 52 rfl w.heap.size 4 i0 (.bool false) 1 1 Try.underlying52 hi hz0 hz1 hz2 rfl (by decide) _ _ _ rfl (Own.empty_ w 4 1 (Nat.le_refl _)) ⟨g, off, none⟩ l.length c (bls l) rfl (by simp [bls]) HR.out oneBl (by unfold maxLen; omega) (by omega) (by simp) ?_)
  intro v' w1 hown hgrow _
  obtain ⟨A', c', rfl, hown⟩ := own_cases hown
  have HX := hide (And.intro hown hgrow)
  clear hown hgrow
  go_wp2
  go_ret
  exact ⟨A', c', rfl, HX.out.1, ((Below.refl _ _).alloc (Nat.le_refl _) _).grown HX.out.2 (by simp) (fun j hj => by simp [Value.ownBlock] at hj; omega)⟩
theorem made_one (z : Value) (n : Nat) : madeCells #[z] n = (List.replicate n z).toArray := by
  apply Array.ext
  · simp [size_madeCells]
  · intro i h1 h2
    simp [madeCells, Nat.mod_one]
theorem mk_ints (n : Nat) (hn : n ≤ 1000) (W : World) : (Instr.makeSlice 22 (.int .i64 (n : Int)) (.int .i64 (n : Int))).run Try.prog W = .ok (.slice (some ⟨W.heap.size, 0, none⟩) n n) (W.alloc (.cells (ints (List.replicate n 0)).toArray 2)) := by
  obtain ⟨i0, hi, hz0, hz1, hz2⟩ := info_parts info_i64
  have h := run_make (P := Try.prog) W 22 2 i0 (.int .i64 0) Try.underlying22 hi hz0 .i64 .i64 n n (by omega) (by omega) (by rw [hz2]; omega) (by omega)
  simp only [Int.toNat_natCast, hz1, Nat.mul_one] at h
  have e : madeCells (Value.int .i64 0).cells n = (ints (List.replicate n 0)).toArray := by
    rw [show (Value.int .i64 0).cells = #[Value.int .i64 0] from rfl, made_one]; simp [ints]
  rw [e] at h
  exact h
theorem mk_bools (n : Nat) (hn : n ≤ 1000) (W : World) : (Instr.makeSlice 52 (.int .i64 (n : Int)) (.int .i64 (n : Int))).run Try.prog W = .ok (.slice (some ⟨W.heap.size, 0, none⟩) n n) (W.alloc (.cells (bls (List.replicate n false)).toArray 4)) := by
  obtain ⟨i0, hi, hz0, hz1, hz2⟩ := info_parts info_bool
  have h := run_make (P := Try.prog) W 52 4 i0 (.bool false) Try.underlying52 hi hz0 .i64 .i64 n n (by omega) (by omega) (by rw [hz2]; omega) (by omega)
  simp only [Int.toNat_natCast, hz1, Nat.mul_one] at h
  have e : madeCells (Value.bool false).cells n = (bls (List.replicate n false)).toArray := by
    rw [show (Value.bool false).cells = #[Value.bool false] from rfl, made_one]; simp [bls]
  rw [e] at h
  exact h
theorem spr_end : True := trivial
end Go.Proofs.Ytdbfebhmldbdbaa
