/-
  Contracts: the library's iterator over a list of integers, what collects it and what sorts it; the median.
-/
import Derived.Test.YtdbfebhmldbdbaaFilt
import Derived.Test.YtdbfebhmldbdbaaNum
import Derived.Test.YtdbfebhmldbdbaaInts
import Derived.Test.YtdbfebhmldbdbaaShS
import Derived.RangeFuncNested
import Derived.RangeFuncBound
import Derived.RangeFuncLeaves
import Derived.RangeFuncFrom
import Derived.RangeFuncWrites
import Derived.Shelf.Abstract
import Derived.Shelf.RegionOpen
import Derived.OwnWalkIn
import Derived.TacticsInMore
import Derived.LoopNIn
import Derived.LoopIn
import Derived.Maps.AppendAt
import Derived.Sort.OwnSortedInts
import Derived.Deep.QuietTactic
import Derived.BigQuiet
import Derived.Outline
namespace Go.Proofs.Ytdbfebhmldbdbaa
open Go.RowKit Pl
set_option linter.unusedVariables false
set_option linter.unusedSimpArgs false
attribute [local go_sem] Oper.semAt_some
theorem take_next {l : List Int} {k : Nat} (h : k < l.length) : l.take (k + 1) = l.take k ++ [l[k]] := List.take_succ_eq_append_getElem h
set_option maxRecDepth 100000 in
set_option maxHeartbeats 2000000 in
theorem vals1_in (F : Fence) (n : Nat) (h7 : F.fn 56) (hro : F.round = none) (hn : 1 ≤ n) (lp Bs n₀ : Nat) (A : Option Addr) (cap : Nat) (l : List Int) (hlen : l.length ≤ 1048576) (J Jx : List Int → World → Prop)
    (hY : ∀ pre x W, J pre W → pre.length < l.length → YieldAt F (n - 1) Try.prog lp #[.int .i64 x] W fun e W' =>
      (e = .returned (.bool true) ∧ J (pre ++ [x]) W' ∧ Below n₀ W W') ∨ (e = .returned (.bool false) ∧ Jx (pre ++ [x]) W'))
    (W : World) (hBs : W.cell? ⟨Bs, 0, none⟩ = some (.slice A l.length cap)) (hr : Rd W n₀ 1 A l.length (ints l)) (h0 : J [] W) :
    CallsIn F n Try.prog 56 #[.func (.yield lp) #[] #[], .pointer (some ⟨Bs, 0, none⟩)] W fun e W' => (∃ v, e = .returned v) ∧
      ((∃ ys, ys = l ∧ J ys W') ∨ (∃ pre, pre <+: l ∧ Jx pre W')) := by
  refine callsIn_of_wp Try.func56 rfl h7 ?_ hro
  simp only [Try.ntmps56, List.size_toArray, List.length_cons, List.length_nil, Nat.reduceAdd, Nat.reduceSub, Array.replicate_succ, Array.replicate_zero, List.push_toArray, List.append_toArray, List.nil_append, List.cons_append]
  gi_wp2
  gi_loopw [7] (fun i wr => ∃ k : Nat, k ≤ l.length ∧ i = .int .i64 k ∧ J (l.take k) wr ∧ Below n₀ W wr) (fun i _ => l.length - (intOf i).toNat)
  case atStart => exact ⟨0, Nat.zero_le _, rfl, by simpa using h0, Below.refl _ _⟩
  case round =>
    obtain ⟨k, hk, rfl, hJs, hnx⟩ := hrel
    by_cases hlt : k < l.length
    · obtain ⟨g, off, rfl, hg, hc⟩ := (hr.below hnx).int hlt
      obtain ⟨fn, tmps, assign, body, hy, hR⟩ := hY _ l[k] wr hJs (by rw [List.length_take]; omega)
      have i1 : (0 : Int) ≤ (k : Int) := by omega
      have i2 : (k : Int) < (l.length : Int) := by omega
      gi_wp2
      refine hR.mono ?_
      rintro e W3 (⟨rfl, hJ3, hk3⟩ | ⟨rfl, hJx3⟩)
      · gi_wp2
        go_roundw
        case rel => exact ⟨k + 1, by omega, by go_num, by rw [take_next hlt]; exact hJ3, hnx.trans hk3⟩
        case measure => simp [intOf]; omega
      · gi_wp2
        refine bodyPost_ret (results_none rfl _ _ _) rfl ?_
        exact ⟨⟨_, rfl⟩, .inr ⟨_, by rw [← take_next hlt]; exact List.take_prefix _ _, hJx3⟩⟩
    · obtain rfl : k = l.length := by omega
      gi_wp2
      go_end0
      exact ⟨⟨_, rfl⟩, .inl ⟨_, rfl, by rw [List.take_length] at hJs; exact hJs⟩⟩
theorem vals_any (a : Option Addr) (len cap : Nat) (w : World) :
    Calls Try.prog 46 #[.slice a len cap] w fun e w' => e = .returned (.func (.func 56) #[] #[.pointer (some ⟨w.heap.size, 0, none⟩)]) ∧ w' = w.alloc (.cells #[.slice a len cap] 22) := by
  go_enter Try.func46, Try.ntmps46
  go_wp2
  go_ret
  exact ⟨rfl, rfl⟩
theorem vals_stops (F : Fence) (n : Nat) (h7 : F.fn 56) (hro : F.round = none) (hn : 1 ≤ n) (Bs n₀ : Nat) (A : Option Addr) (cap : Nat) (l : List Int) (hlen : l.length ≤ 1048576) (w : World) (hBs : Bs < n₀) (hn₀ : n₀ ≤ w.heap.size)
    (hc : w.cell? ⟨Bs, 0, none⟩ = some (.slice A l.length cap)) (hr : Rd w n₀ 1 A l.length (ints l)) :
    SeqStopsK F n Try.prog 56 #[.pointer (some ⟨Bs, 0, none⟩)] (fun x : Int => #[Value.int .i64 x]) (Below n₀) (fun ys => ys = l) (fun pre => pre <+: l) l.length w := fun lp J Jx W hW _ _ hY h0 =>
  vals1_in F n h7 hro hn lp Bs n₀ A cap l hlen J Jx hY W ((hW.cell (p := ⟨Bs, 0, none⟩) (Nat.lt_of_lt_of_le hBs hn₀)).trans hc) (hr.below (hW.mono hn₀)) h0
theorem info_i64 : (Try.prog.info? 2).map (fun i => (i.zero, i.size, i.bytes)) = some (some (.int .i64 0), 1, 8) := by kernel_rfl
set_option maxRecDepth 100000 in
set_option maxHeartbeats 4000000 in
theorem AppendSeq_any (Bs : Nat) (A : Option Addr) (c : Nat) (l : List Int) (w : World) (hlen : l.length ≤ 1048576) (hBs : Bs < w.heap.size) (hc : w.cell? ⟨Bs, 0, none⟩ = some (.slice A l.length c)) (hr : Rd w w.heap.size 1 A l.length (ints l)) :
    Calls Try.prog 60 #[.slice none 0 0, .func (.func 56) #[] #[.pointer (some ⟨Bs, 0, none⟩)]] w fun e W' => ∃ v, e = .returned v ∧ W'.ownsRow w.heap.size 2 1 v l.length (ints l) ∧ (v = .slice none 0 0 ↔ l = []) ∧ Below w.heap.size w W' := by
  obtain ⟨i0, hi, hz0, hz1, hz2⟩ := info_parts info_i64
  refine (callsIn_wide (n := 6)).1 ?_
  refine callsIn_of_wp_marks Try.func60 rfl trivial ?_ rfl
  simp only [Try.ntmps60, List.size_toArray, List.length_cons, List.length_nil, Nat.reduceAdd, Nat.reduceSub, Array.replicate_succ, Array.replicate_zero, List.push_toArray, List.append_toArray, List.nil_append, List.cons_append]
  gi_wp2
  have bO := Boxed.new w 22 (.slice none 0 0)
  have hB0 : Below w.heap.size w (w.alloc (.cells #[.slice none 0 0] 22)) := (Below.refl _ w).alloc (Nat.le_refl _) _
  have hc1 : (w.alloc (.cells #[.slice none 0 0] 22)).cell? ⟨Bs, 0, none⟩ = some (.slice A l.length c) := (hB0.cell (p := ⟨Bs, 0, none⟩) hBs).trans hc
  refine wpIn_rangeFunc_ownG rfl (by omega) (gf := 56) (lb := #[.pointer (some ⟨Bs, 0, none⟩)]) rfl trivial (enters_of Try.func56 (by kernel_rfl) rfl)
    (vals_stops Fence.wide (6 - 1) trivial rfl (by omega) Bs w.heap.size A c l hlen _ hBs (by simp) hc1 (hr.below hB0)) belowK_t (belowK_b (by simp)) (Below.refl _ _) (fun _ => rfl)
    (fun pre W => (∃ v, Boxed W w.heap.size 22 v ∧ W.ownsRow w.heap.size 2 1 v pre.length (pre.map (Value.int .i64)) ∧ (v = .slice none 0 0 ↔ pre = [])) ∧ Below w.heap.size w W)
    (fun _ _ _ => False)
    (OwnFrom.and (Go.Own.from (holdsRow_own w.heap.size w.heap.size 22 2 1 (fun pre : List Int => pre.length) (fun pre => pre.map (Value.int .i64)) (fun pre v => v = .slice none 0 0 ↔ pre = [])) _) (ownFrom_below (Nat.le_refl _) (by simp)))
    (fun _ _ _ _ _ hs _ _ => hs)
    ⟨⟨_, bO, World.ownsRow_nil _ _ _ _, by simp⟩, hB0⟩
    (fun x => { tmps := #[.slice none 0 0, .func (.func 56) #[] #[.pointer (some ⟨Bs, 0, none⟩)], .pointer (some ⟨w.heap.size, 0, none⟩), undef, .slice none 0 0, .int .i64 x, .func (.func 56) #[] #[.pointer (some ⟨Bs, 0, none⟩)], .int .i64 x, undef, undef, undef, undef, undef], defers := [] }) ?assign ?body ?done ?stop
  case assign =>
    intro lp x W K hK
    gi_wp2
    exact hK
  case body =>
    rintro lp pre x W ⟨⟨v, hv, hrow, hnil⟩, hB⟩ hlt
    have hc := hv.cell
    gi_wp2_with (gi_at_builtin; refine wpListIn_append_own _ rfl _ _ 22 rfl w.heap.size 2 i0 (.int .i64 0) 1 8 Try.underlying22 hi hz0 hz1 hz2 rfl (by decide) _ _ _ rfl (hrow.alloc _) ⟨W.heap.size, 0, none⟩ 1 1 [.int .i64 x] rfl rfl (cell_one_new _ _ _) (by simp [Value.oneCell']) (by unfold maxLen; omega) (by omega) (by have := hB.size; simp; omega) ?_; intro v' w1 hown' hgrow _; obtain ⟨g', cap', rfl⟩ := ownsRow_succ hown'; obtain ⟨hv1, hv2, hr2, hk2, hb2⟩ := hv.appended (by decide) hrow hB.size (Nat.le_refl _) hown' hgrow; have hc1 := hv1.cell; have hf1 := hv1.frozen)
    exact ⟨hk2.from _, hb2, ⟨_, hv2, by simpa using hr2, by simp⟩, hB.trans hb2⟩
  case done =>
    rintro D ys W hD rfl ⟨⟨v, hv, hrow, hnil⟩, hB⟩ hK
    have hc := hv.cell
    gi_wp2
    refine ⟨by simp, .inl ⟨_, _, rfl, run_takeDeferred hK, ?_⟩⟩
    exact ⟨_, results_tmp rfl _ _ _, v, rfl, ownsRow_putObj hrow _ hK rfl, hnil, hB.trans (belowK_b (w := w) (Nat.le_refl _) W D _ _ (by simp at hD; omega) hK rfl rfl)⟩
  case stop =>
    rintro D c pre W _ _ h _
    exact h.elim
theorem Collect_any (Bs : Nat) (A : Option Addr) (c : Nat) (l : List Int) (w : World) (hlen : l.length ≤ 1048576) (hBs : Bs < w.heap.size) (hc : w.cell? ⟨Bs, 0, none⟩ = some (.slice A l.length c)) (hr : Rd w w.heap.size 1 A l.length (ints l)) :
    Calls Try.prog 54 #[.func (.func 56) #[] #[.pointer (some ⟨Bs, 0, none⟩)]] w fun e W' => ∃ v, e = .returned v ∧ W'.ownsRow w.heap.size 2 1 v l.length (ints l) ∧ (v = .slice none 0 0 ↔ l = []) ∧ Below w.heap.size w W' := by
  have HC := hide hc
  have HR := hide hr
  clear hc hr
  go_enter Try.func54, Try.ntmps54
  go_wp2_with fail
  refine (AppendSeq_any Bs A c l _ hlen hBs HC.out HR.out).mono ?_
  rintro e w1 ⟨v, rfl, h1, h2, h3⟩
  go_wp2
  go_ret
  exact ⟨v, rfl, h1, h2, h3⟩
def srt (l : List Int) : List Int := l.mergeSort fun x y => decide (x ≤ y)
theorem srt_len (l : List Int) : (srt l).length = l.length := List.length_mergeSort _
theorem srt_perm (l : List Int) : (srt l).Perm l := List.mergeSort_perm _ _
theorem srt_mem {l : List Int} {x : Int} (h : x ∈ srt l) : x ∈ l := (srt_perm l).subset h
set_option maxHeartbeats 2000000 in
theorem Sorted_any (Bs : Nat) (A : Option Addr) (c : Nat) (l : List Int) (w : World) (h0 : 0 < l.length) (hlen : l.length ≤ 1048576) (hBs : Bs < w.heap.size) (hc : w.cell? ⟨Bs, 0, none⟩ = some (.slice A l.length c)) (hr : Rd w w.heap.size 1 A l.length (ints l)) :
    Calls Try.prog 45 #[.func (.func 56) #[] #[.pointer (some ⟨Bs, 0, none⟩)]] w fun e W' => ∃ A' c', e = .returned (.slice A' l.length c') ∧ Own W' w.heap.size 2 1 A' l.length c' (ints (srt l)) ∧ Below w.heap.size w W' := by
  have HC := hide hc
  have HR := hide hr
  clear hc hr
  go_enter Try.func45, Try.ntmps45
  go_wp2_with fail
  refine (Collect_any Bs A c l _ hlen hBs HC.out HR.out).mono ?_
  rintro e W ⟨v, rfl, hrow, hnil, hb⟩
  rcases hrow.2 with ⟨rfl, hz⟩ | ⟨gb, cap, cur, rfl, hbase, hgb, r1, r2, r3, r4⟩
  · omega
  · have hH : Go.Sort.Holds (Value.int .i64) W gb 0 l.toArray := holds_of_blockI hgb (by simpa [ints] using r4)
    have hgl : gb < W.heap.size := (Array.getElem?_eq_some_iff.1 hgb).1
    have HB := hide hb
    have HS := hide (Try.slices_Sort_int gb 0 cap l W hH hgl (by omega))
    have HP := hide (And.intro hbase (And.intro hgb (And.intro r1 (And.intro r2 r3))))
    clear hrow hnil hb hH hgb r1 r2 r3 r4 hbase
    go_wp2_with fail
    refine HS.out.mono ?_
    rintro e w' ⟨rfl, nn, os, rfl⟩
    obtain ⟨hbase, hgb, r1, r2, r3⟩ := HP.out
    have HO := hide (ownsRow_sortedI (n := nn) (os := os) (ss := l) (ts := srt l) (srt_len l) hbase hgb r1 r2 r3)
    have HBB := hide (HB.out.grown (grownBy_sortedI (w := W) (g := gb) (n := nn) (os := os) (srt l).toArray) HB.out.size (fun j hj => by cases hj; exact hbase))
    obtain ⟨W2, hW2⟩ : ∃ W2, W2 = Go.Sort.grow (Go.Sort.putRow (Value.int IntKind.i64) (Go.Sort.ahead W nn) gb 0 (l.mergeSort fun x y => decide (x ≤ y)).toArray) os := ⟨_, rfl⟩
    rw [← hW2]
    have HO2 := hide (show Own W2 w.heap.size 2 1 (some ⟨gb, 0, none⟩) l.length cap (ints (srt l)) from hW2 ▸ HO.out)
    have HB2 := hide (show Below w.heap.size w W2 from hW2 ▸ HBB.out)
    clear hW2 HO HBB HP hbase hgb r1 r2 r3
    go_wp2
    go_ret
    exact ⟨_, _, rfl, HO2.out, HB2.out⟩
def med (l : List Int) : Int := if l.length % 2 = 1 then (srt l).getD (l.length / 2) 0 else near ((srt l).getD (l.length / 2 - 1) 0 + (srt l).getD (l.length / 2) 0) 2
theorem srt_bd {l : List Int} {B : Int} (hB : ∀ x ∈ l, -B ≤ x ∧ x ≤ B) {i : Nat} (h : i < (srt l).length) : -B ≤ (srt l)[i] ∧ (srt l)[i] ≤ B := hB _ (srt_mem (List.getElem_mem h))
set_option maxHeartbeats 2000000 in
theorem median_any (A : Option Addr) (c : Nat) (l : List Int) (w : World) (h0 : 0 < l.length) (hlen : l.length ≤ 1048576) (hB : ∀ x ∈ l, -1000000000 ≤ x ∧ x ≤ 1000000000) (hr : Rd w w.heap.size 1 A l.length (ints l)) :
    Calls Try.prog 26 #[.slice A l.length c] w fun e W' => e = .returned (.int .i64 (med l)) ∧ Below w.heap.size w W' := by
  have HR := hide hr
  have HBD := hide hB
  clear hr hB
  go_enter Try.func26, Try.ntmps26
  go_wp2_with fail
  refine (vals_any A l.length c w).mono ?_
  rintro e w0 ⟨rfl, hw0⟩
  have E0 := hide (show Below w.heap.size w w0 from hw0 ▸ (Below.refl _ _).alloc (Nat.le_refl _) _)
  have hz0 : w.heap.size < w0.heap.size := by rw [hw0]; simp
  have HC := hide (show w0.cell? ⟨w.heap.size, 0, none⟩ = some (.slice A l.length c) from by rw [hw0]; simp [go_sem])
  clear hw0
  go_wp2_with fail
  refine (Sorted_any w.heap.size A c l w0 h0 hlen hz0 HC.out ((HR.out.below E0.out).more E0.out.size)).mono ?_
  rintro e w1 ⟨A', c', rfl, v, b⟩
  have HO := hide v
  have HB := hide (E0.out.trans (b.mono E0.out.size))
  clear v b
  have hl := srt_len l
  have hq : l.length / 2 < (srt l).length := by omega
  obtain ⟨g, off, rfl, hg, hc⟩ := (show Rd w1 w1.heap.size 1 A' (srt l).length (ints (srt l)) from by rw [hl]; exact HO.out.rd).int hq
  have hb1 := srt_bd HBD.out hq
  obtain ⟨x, hx⟩ : ∃ x, x = (srt l)[l.length / 2] := ⟨_, rfl⟩
  rw [← hx] at hc hb1
  have hxd : (srt l).getD (l.length / 2) 0 = x := by rw [hx, List.getD_eq_getElem?_getD, List.getElem?_eq_getElem hq]; rfl
  have HX := hide hx
  clear hx
  have i1 : (0 : Int) ≤ ((l.length / 2 : Nat) : Int) := by omega
  have i2 : ((l.length / 2 : Nat) : Int) < (l.length : Int) := by omega
  by_cases hodd : l.length % 2 = 1
  · have HM := hide (show med l = x from by rw [med, if_pos hodd, hxd])
    have hr1 : ((l.length : Int) % 2 == 1) = true := by simp; omega
    go_wp2
    go_ret
    exact ⟨ret_int HM.out.symm, HB.out⟩
  · have hq1 : l.length / 2 - 1 < (srt l).length := by omega
    obtain ⟨g', off', he, hg', hc'⟩ := (show Rd w1 w1.heap.size 1 (some ⟨g, off, none⟩) (srt l).length (ints (srt l)) from by rw [hl]; exact HO.out.rd).int hq1
    injection he with he
    injection he with he1 he2 _
    subst he1 he2
    have hb2 := srt_bd HBD.out hq1
    obtain ⟨y, hy⟩ : ∃ y, y = (srt l)[l.length / 2 - 1] := ⟨_, rfl⟩
    rw [← hy] at hc' hb2
    have hyd : (srt l).getD (l.length / 2 - 1) 0 = y := by rw [hy, List.getD_eq_getElem?_getD, List.getElem?_eq_getElem hq1]; rfl
    have HY := hide hy
    clear hy
    have HM := hide (show med l = near (y + x) 2 from by rw [med, if_neg hodd, hxd, hyd])
    have hr1 : ((l.length : Int) % 2 == 1) = false := by simp; omega
    have j0 : IntKind.i64.wrap (((l.length / 2 : Nat) : Int) - 1) = ((l.length / 2 - 1 : Nat) : Int) := by rw [IntKind.wrap_i64]; omega
    have j1 : (0 : Int) ≤ ((l.length / 2 - 1 : Nat) : Int) := by omega
    have j2 : ((l.length / 2 - 1 : Nat) : Int) < (l.length : Int) := by omega
    have hsum : IntKind.i64.wrap (y + x) = y + x := by rw [IntKind.wrap_i64]; omega
    obtain ⟨q, hqe⟩ : ∃ q, l.length / 2 = q := ⟨_, rfl⟩
    have hqi : (l.length : Int) / 2 = (q : Int) := by omega
    rw [hqe] at hc hc' i1 i2 j0 j1 j2
    obtain ⟨p, hpe⟩ : ∃ p, q - 1 = p := ⟨_, rfl⟩
    rw [hpe] at hc' j0 j1 j2
    have hpq : (q : Int) - 1 = (p : Int) := by omega
    have hwp : IntKind.i64.wrap (p : Int) = (p : Int) := by rw [IntKind.wrap_i64]; omega
    clear hxd hyd HX HY hq hq1 hqe hpe
    go_wp2_with fail
    go_region_held3 (fun w' => w'.cell? ⟨g, off + p, none⟩ = some (.int .i64 y) ∧ w'.cell? ⟨g, off + q, none⟩ = some (.int .i64 x)) (go_keep) (first | (go_at_call 47; refine (nearest_any _ _ _ (by omega) (by omega) (by omega) (by omega)).mono ?_; rintro e w' ⟨rfl, rfl⟩))
    all_goals
      go_wp2
      go_ret
      exact ⟨ret_int HM.out.symm, HB.out.drew⟩
theorem med_end : True := trivial
end Go.Proofs.Ytdbfebhmldbdbaa
