/-
  Contracts: the last estimate of a star, as the program finds it.
-/
import Derived.Test.YtldgelkgobocdaaLast
import Derived.RangeFuncNested
import Derived.RangeFuncBound
import Derived.RangeFuncLeaves
import Derived.RangeFuncFrom
import Derived.Shelf.Abstract
import Derived.Shelf.RegionOpen
import Derived.OwnWalkIn
import Derived.TacticsInMore
import Derived.LoopNIn
import Derived.LoopIn
import Derived.Outline
namespace Go.Proofs.Ytldgelkgobocdaa
open Go.RowKit Pl
set_option linter.unusedVariables false
set_option linter.unusedSimpArgs false
attribute [local go_sem] Oper.semAt_some
def encB (l : List EstT) (i : Nat) : Array Value := #[.int .i64 (i : Int), .agg #[.int .i64 (gE l i).time, .string (gE l i).star, .string (gE l i).obs, .int .i64 (gE l i).mag, .bool (gE l i).fain]]
theorem downs_take {n c : Nat} (h : c < n) : (downs n).take (c + 1) = (downs n).take c ++ [n - 1 - c] := by
  have hl : c < (downs n).length := by rw [downs_len]; exact h
  rw [List.take_succ_eq_append_getElem hl]
  simp [downs]
theorem downs_take_len {n c : Nat} (h : c ≤ n) : ((downs n).take c).length = c := by simp [downs_len, h]
set_option maxRecDepth 100000 in
set_option maxHeartbeats 2000000 in
theorem back1_in (F : Fence) (n : Nat) (h7 : F.fn 125) (hro : F.round = none) (hn : 1 ≤ n) (lp Bs n₀ : Nat) (A : Option Addr) (cap : Nat) (l : List EstT) (hlen : l.length ≤ 1048576) (hBn : Bs < n₀) (J Jx : List Nat → World → Prop)
    (hY : ∀ pre x W, J pre W → pre.length < l.length → YieldAt F (n - 1) Try.prog lp (encB l x) W fun e W' =>
      (e = .returned (.bool true) ∧ J (pre ++ [x]) W' ∧ Below n₀ W W') ∨ (e = .returned (.bool false) ∧ Jx (pre ++ [x]) W'))
    (W : World) (hBs : W.cell? ⟨Bs, 0, none⟩ = some (.slice A l.length cap)) (hr : Rd W n₀ 5 A l.length (l.flatMap EstT.cells)) (h0 : J [] W) :
    CallsIn F n Try.prog 125 #[.func (.yield lp) #[] #[], .pointer (some ⟨Bs, 0, none⟩)] W fun e W' => (∃ v, e = .returned v) ∧
      ((∃ ys, ys = downs l.length ∧ J ys W') ∨ (∃ pre, pre <+: downs l.length ∧ Jx pre W')) := by
  refine callsIn_of_wp Try.func125 rfl h7 ?_ hro
  simp only [Try.ntmps125, List.size_toArray, List.length_cons, List.length_nil, Nat.reduceAdd, Nat.reduceSub, Array.replicate_succ, Array.replicate_zero, List.push_toArray, List.append_toArray, List.nil_append, List.cons_append]
  gi_wp2
  gi_loopw [3] (fun i wr => ∃ (c : Nat) (v : Int), c ≤ l.length ∧ i = .int .i64 v ∧ v = (l.length : Int) - 1 - c ∧ J ((downs l.length).take c) wr ∧ Below n₀ W wr) (fun i _ => (intOf i + 1).toNat)
  case atStart => exact ⟨0, _, by omega, rfl, by omega, h0, Below.refl _ _⟩
  case round =>
    obtain ⟨c, v, hc, rfl, hv, hJs, hnx⟩ := hrel
    have hbx := (hnx.cell (p := ⟨Bs, 0, none⟩) hBn).trans hBs
    by_cases hlt : c < l.length
    · obtain ⟨j, rfl⟩ := Int.eq_ofNat_of_zero_le (show 0 ≤ v by omega)
      have hj : j < l.length := by omega
      have hjc := hide (show j = l.length - 1 - c from by omega)
      replace hv := hide hv
      obtain ⟨g, off, rfl, hg, hce⟩ := (hr.below hnx).elem EstT.cells_len hj
      have e0 : wr.cell? ⟨g, off + j * 5, none⟩ = some (.int .i64 l[j].time) := hce 0 _ rfl
      have e1 : wr.cell? ⟨g, off + j * 5 + 1, none⟩ = some (.string l[j].star) := hce 1 _ rfl
      have e2 : wr.cell? ⟨g, off + j * 5 + 2, none⟩ = some (.string l[j].obs) := hce 2 _ rfl
      have e3 : wr.cell? ⟨g, off + j * 5 + 3, none⟩ = some (.int .i64 l[j].mag) := hce 3 _ rfl
      have e4 : wr.cell? ⟨g, off + j * 5 + 4, none⟩ = some (.bool l[j].fain) := hce 4 _ rfl
      clear hce
      obtain ⟨fn, tmps, assign, body, hy, hR⟩ := hY _ j wr hJs (by rw [downs_take_len hc]; exact hlt)
      rw [encB, getD_of hj] at hy
      have i1 : (0 : Int) ≤ (j : Int) := by omega
      have i2 : (j : Int) < (l.length : Int) := by omega
      gi_wp2
      refine hR.mono ?_
      rintro e W3 (⟨rfl, hJ3, hk3⟩ | ⟨rfl, hJx3⟩)
      · gi_wp2
        go_roundw
        case rel => exact ⟨c + 1, (j : Int) - 1, by omega, by go_num, by have := hv.out; omega, by rw [downs_take hlt, ← hjc.out]; exact hJ3, hnx.trans hk3⟩
        case measure => first | (simp [intOf]; done) | (simp [intOf]; omega)
      · gi_wp2
        refine bodyPost_ret (results_none rfl _ _ _) rfl ?_
        exact ⟨⟨_, rfl⟩, .inr ⟨_, by rw [hjc.out, ← downs_take hlt]; exact List.take_prefix _ _, hJx3⟩⟩
    · obtain rfl : c = l.length := by omega
      have hvv : v = -1 := by omega
      subst hvv
      gi_wp2
      go_end0
      exact ⟨⟨_, rfl⟩, .inl ⟨_, rfl, by rw [List.take_of_length_le (by rw [downs_len]; omega)] at hJs; exact hJs⟩⟩
theorem back_in (F : Fence) (n : Nat) (h5 : F.fn 88) (hro : F.round = none) (a : Option Addr) (len cap : Nat) (w : World) :
    CallsIn F n Try.prog 88 #[.slice a len cap] w fun e w' => e = .returned (.func (.func 125) #[] #[.pointer (some ⟨w.heap.size, 0, none⟩)]) ∧ w' = w.alloc (.cells #[.slice a len cap] 52) := by
  refine callsIn_of_wp Try.func88 rfl h5 ?_ hro
  simp only [Try.ntmps88, List.size_toArray, List.length_cons, List.length_nil, Nat.reduceAdd, Nat.reduceSub, Array.replicate_succ, Array.replicate_zero, List.push_toArray, List.append_toArray, List.nil_append, List.cons_append]
  gi_wp2
  go_ret
  exact ⟨rfl, rfl⟩
theorem back_stops (F : Fence) (n : Nat) (h7 : F.fn 125) (hro : F.round = none) (hn : 1 ≤ n) (Bs n₀ : Nat) (A : Option Addr) (cap : Nat) (l : List EstT) (hlen : l.length ≤ 1048576) (w : World) (hBs : Bs < n₀) (hn₀ : n₀ ≤ w.heap.size)
    (hc : w.cell? ⟨Bs, 0, none⟩ = some (.slice A l.length cap)) (hr : Rd w n₀ 5 A l.length (l.flatMap EstT.cells)) :
    SeqStopsK F n Try.prog 125 #[.pointer (some ⟨Bs, 0, none⟩)] (encB l) (Below n₀) (fun ys => ys = downs l.length) (fun pre => pre <+: downs l.length) l.length w := fun lp J Jx W hW _ _ hY h0 =>
  back1_in F n h7 hro hn lp Bs n₀ A cap l hlen hBs J Jx hY W ((hW.cell (p := ⟨Bs, 0, none⟩) (Nat.lt_of_lt_of_le hBs hn₀)).trans hc) (hr.below (hW.mono hn₀)) h0
theorem heap_own {X Y : World} {row : Option Nat} {b B : Nat} {cs : Array Value} {t : TypeId} (h : X.heap[b]? = some (.cells cs t (0, 0))) (hg : X.grownBy Y row) (hr : ∀ r, row = some r → B ≤ r ∧ ∃ o : Obj, X.heap[r]? = some o ∧ o.isCells = false) : Y.heap[b]? = some (.cells cs t (0, 0)) := by
  refine (hg.block b (Array.getElem?_eq_some_iff.1 h).1 (fun e => ?_)).trans h
  obtain ⟨_, o, ho, hc⟩ := hr b e.symm
  rw [h] at ho
  cases ho
  cases hc
theorem heap_put {X : World} {b D : Nat} {cs : Array Value} {t : TypeId} (o' : Obj) (h : X.heap[b]? = some (.cells cs t (0, 0))) {o : Obj} (hD : X.heap[D]? = some o) (ho : o.isCells = false) : (X.putObj D o').heap[b]? = some (.cells cs t (0, 0)) :=
  heap_own (B := 0) h (grownBy_putObj' X D o') (fun r e => by cases e; exact ⟨Nat.zero_le _, _, hD, ho⟩)
set_option maxRecDepth 100000 in
set_option maxHeartbeats 8000000 in
theorem impl_LastOf_any (A : Option Addr) (c : Nat) (l : List EstT) (s : ByteArray) (w : World) (hn : l.length ≤ 1048576) (hs : s.size ≤ maxLen) (hok : ∀ x ∈ l, x.ok) (hr : Rd w w.heap.size 5 A l.length (l.flatMap EstT.cells)) :
    Calls Try.prog 36 #[.slice A l.length c, .string s] w fun e w' => e = .returned (.tuple #[.agg #[.int .i64 (lastOf l s).1.time, .string (lastOf l s).1.star, .string (lastOf l s).1.obs, .int .i64 (lastOf l s).1.mag, .bool (lastOf l s).1.fain], .int .i64 (lastOf l s).2]) ∧ Below w.heap.size w w' := by
  obtain ⟨w0, hw0⟩ : ∃ w0, w0 = ((w.alloc (.cells #[.string s] 9)).alloc (.cells #[.int .i64 0, .string ⟨#[]⟩, .string ⟨#[]⟩, .int .i64 0, .bool false] 49)).alloc (.cells #[.int .i64 0] 2) := ⟨_, rfl⟩
  have E0 := hide (show Below w.heap.size w w0 from hw0 ▸ (((Below.refl _ _).alloc (Nat.le_refl _) _).alloc (by simp) _).alloc (by simp; omega) _)
  have hz0 : w0.heap.size = w.heap.size + 3 := by rw [hw0]; simp
  have BS := hide (show Boxed w0 w.heap.size 9 (.string s) from by rw [hw0]; exact ((Boxed.new _ _ _).alloc _).alloc _)
  have BR := hide (show Bk w0 (w.heap.size + 1) 49 #[.int .i64 0, .string ⟨#[]⟩, .string ⟨#[]⟩, .int .i64 0, .bool false] from by rw [hw0]; have := (Bk.new (w.alloc (.cells #[.string s] 9)) 49 #[.int .i64 0, .string ⟨#[]⟩, .string ⟨#[]⟩, .int .i64 0, .bool false]).alloc (.cells #[.int .i64 0] 2); rw [World.size_alloc] at this; exact this)
  have BC := hide (show Boxed w0 (w.heap.size + 1 + 1) 2 (.int .i64 0) from by rw [hw0]; have := Boxed.new ((w.alloc (.cells #[.string s] 9)).alloc (.cells #[.int .i64 0, .string ⟨#[]⟩, .string ⟨#[]⟩, .int .i64 0, .bool false] 49)) 2 (.int .i64 0); rw [World.size_alloc, World.size_alloc] at this; exact this)
  have HW0 := hide hw0
  have HR := hide hr
  have OK := hide hok
  clear hw0 hr hok
  cases hv : validB estOk estLt 100 l
  · have R := hide (show lastOf l s = (zeroE, 1) from by rw [lastOf, hv]; rfl)
    have HV := hide hv
    clear hv
    refine (callsIn_wide (n := 6)).1 ?_
    refine callsIn_of_wp_marks Try.func36 rfl trivial ?_ rfl
    simp only [Try.ntmps36, List.size_toArray, List.length_cons, List.length_nil, Nat.reduceAdd, Nat.reduceSub, Array.replicate_succ, Array.replicate_zero, List.push_toArray, List.append_toArray, List.nil_append, List.cons_append]
    have fn1 : Fence.wide.fn 86 := trivial
    have fn2 : Fence.wide.fn 87 := trivial
    have fn3 : Fence.wide.fn 88 := trivial
    gi_wp2_with fail
    rw [← HW0.out]
    refine (callsIn_wide.2 (impl_ValidEstimates_any A c l w0 hn OK.out ((HR.out.below E0.out).more E0.out.size))).mono ?_
    rintro e w1 ⟨rfl, b⟩
    rw [HV.out]
    have T1 := hide b
    clear b
    have hz1 : w.heap.size + 3 ≤ w1.heap.size := by have := T1.out.size; omega
    have bS := hide (show Boxed w1 w.heap.size 9 (.string s) from (T1.out.block _ (by omega)).trans BS.out)
    have bR := hide (BR.out.below T1.out (by omega))
    have bC := hide (show Boxed w1 (w.heap.size + 1 + 1) 2 (.int .i64 0) from (T1.out.block _ (by omega)).trans BC.out)
    have HB : Below w.heap.size w w1 := E0.out.trans (T1.out.mono E0.out.size)
    have xS := bS.out.cell
    have x0 := bR.out.cell 0
    have x1 := bR.out.cell 1
    have x2 := bR.out.cell 2
    have x3 := bR.out.cell 3
    have x4 := bR.out.cell 4
    have f0 := bR.out.frozen 0
    have f1 := bR.out.frozen 1
    have f2 := bR.out.frozen 2
    have f3 := bR.out.frozen 3
    have f4 := bR.out.frozen 4
    have y0 := bC.out.cell
    have g0 := bC.out.frozen
    simp at x0 x1 x2 x3 x4
    gi_wp2
    exact ⟨.tuple #[.agg #[.int .i64 0, .string ⟨#[]⟩, .string ⟨#[]⟩, .int .i64 0, .bool false], .int .i64 1], by simp [results, Try.results36, Try.f36, go_sem, x0, x1, x2, x3, x4, y0], ret_last R.out, by
      iterate 6 refine Below.setCell ?_ (by dsimp only; omega) _
      exact HB⟩
  cases hm : nameB s
  · have R := hide (show lastOf l s = (zeroE, 2) from by rw [lastOf, hv, hm]; rfl)
    have HV := hide hv
    have HM := hide hm
    clear hv hm
    refine (callsIn_wide (n := 6)).1 ?_
    refine callsIn_of_wp_marks Try.func36 rfl trivial ?_ rfl
    simp only [Try.ntmps36, List.size_toArray, List.length_cons, List.length_nil, Nat.reduceAdd, Nat.reduceSub, Array.replicate_succ, Array.replicate_zero, List.push_toArray, List.append_toArray, List.nil_append, List.cons_append]
    have fn1 : Fence.wide.fn 86 := trivial
    have fn2 : Fence.wide.fn 87 := trivial
    have fn3 : Fence.wide.fn 88 := trivial
    gi_wp2_with fail
    rw [← HW0.out]
    refine (callsIn_wide.2 (impl_ValidEstimates_any A c l w0 hn OK.out ((HR.out.below E0.out).more E0.out.size))).mono ?_
    rintro e w1 ⟨rfl, b⟩
    rw [HV.out]
    have T1 := hide b
    clear b
    have hz1 : w.heap.size + 3 ≤ w1.heap.size := by have := T1.out.size; omega
    have bS := hide (show Boxed w1 w.heap.size 9 (.string s) from (T1.out.block _ (by omega)).trans BS.out)
    have bR := hide (BR.out.below T1.out (by omega))
    have bC := hide (show Boxed w1 (w.heap.size + 1 + 1) 2 (.int .i64 0) from (T1.out.block _ (by omega)).trans BC.out)
    have HB : Below w.heap.size w w1 := E0.out.trans (T1.out.mono E0.out.size)
    have xS := bS.out.cell
    have x0 := bR.out.cell 0
    have x1 := bR.out.cell 1
    have x2 := bR.out.cell 2
    have x3 := bR.out.cell 3
    have x4 := bR.out.cell 4
    have f0 := bR.out.frozen 0
    have f1 := bR.out.frozen 1
    have f2 := bR.out.frozen 2
    have f3 := bR.out.frozen 3
    have f4 := bR.out.frozen 4
    have y0 := bC.out.cell
    have g0 := bC.out.frozen
    simp at x0 x1 x2 x3 x4
    gi_wp2_with fail
    refine (callsIn_wide.2 (impl_IsName_any s _ hs)).mono ?_
    rintro e w' ⟨rfl, rfl⟩
    rw [HM.out]
    gi_wp2
    exact ⟨.tuple #[.agg #[.int .i64 0, .string ⟨#[]⟩, .string ⟨#[]⟩, .int .i64 0, .bool false], .int .i64 2], by simp [results, Try.results36, Try.f36, go_sem, x0, x1, x2, x3, x4, y0], ret_last R.out, by
      iterate 6 refine Below.setCell ?_ (by dsimp only; omega) _
      exact HB⟩
  have R0 := hide (show lastOf l s = lastAt (starIs s) l l.length from by rw [lastOf, hv, hm]; rfl)
  have HV := hide hv
  have HM := hide hm
  clear hv hm
  refine (callsIn_wide (n := 6)).1 ?_
  refine callsIn_of_wp_marks Try.func36 rfl trivial ?_ rfl
  simp only [Try.ntmps36, List.size_toArray, List.length_cons, List.length_nil, Nat.reduceAdd, Nat.reduceSub, Array.replicate_succ, Array.replicate_zero, List.push_toArray, List.append_toArray, List.nil_append, List.cons_append]
  have fn1 : Fence.wide.fn 86 := trivial
  have fn2 : Fence.wide.fn 87 := trivial
  have fn3 : Fence.wide.fn 88 := trivial
  gi_wp2_with fail
  rw [← HW0.out]
  refine (callsIn_wide.2 (impl_ValidEstimates_any A c l w0 hn OK.out ((HR.out.below E0.out).more E0.out.size))).mono ?_
  rintro e w1 ⟨rfl, b⟩
  rw [HV.out]
  have T1 := hide b
  clear b
  have hz1 : w.heap.size + 3 ≤ w1.heap.size := by have := T1.out.size; omega
  have bS := hide (show Boxed w1 w.heap.size 9 (.string s) from (T1.out.block _ (by omega)).trans BS.out)
  have bR := hide (BR.out.below T1.out (by omega))
  have bC := hide (show Boxed w1 (w.heap.size + 1 + 1) 2 (.int .i64 0) from (T1.out.block _ (by omega)).trans BC.out)
  have HB : Below w.heap.size w w1 := E0.out.trans (T1.out.mono E0.out.size)
  have xS := bS.out.cell
  have x0 := bR.out.cell 0
  have x1 := bR.out.cell 1
  have x2 := bR.out.cell 2
  have x3 := bR.out.cell 3
  have x4 := bR.out.cell 4
  have f0 := bR.out.frozen 0
  have f1 := bR.out.frozen 1
  have f2 := bR.out.frozen 2
  have f3 := bR.out.frozen 3
  have f4 := bR.out.frozen 4
  have y0 := bC.out.cell
  have g0 := bC.out.frozen
  simp at x0 x1 x2 x3 x4
  gi_wp2_with fail
  refine (callsIn_wide.2 (impl_IsName_any s _ hs)).mono ?_
  rintro e w' ⟨rfl, rfl⟩
  rw [HM.out]
  gi_wp2_with fail
  refine (back_in Fence.wide 5 trivial rfl _ _ _ _).mono ?_
  rintro e w2 ⟨rfl, hw2⟩
  gi_wp2
  clear xS x0 x1 x2 x3 x4 f0 f1 f2 f3 f4 y0 g0
  have hbx := Boxed.new w1 52 (.slice A l.length c)
  have hsz : w2.heap.size = w1.heap.size + 1 := by rw [hw2]; simp
  have T2 := hide (show Below w1.heap.size w1 w2 from hw2 ▸ (Below.refl _ _).alloc (Nat.le_refl _) _)
  rw [← hw2] at hbx
  have bS2 := bS.out.alloc (.cells #[.slice A l.length c] 52)
  have bR2 := bR.out.alloc (.cells #[.slice A l.length c] 52)
  have bC2 := bC.out.alloc (.cells #[.slice A l.length c] 52)
  rw [← hw2] at bS2 bR2 bC2
  rw [← hw2]
  clear hw2
  have HB2 := HB.trans (T2.out.mono HB.size)
  have hr2 := (HR.out.below HB2).more HB2.size
  refine wpIn_rangeFunc_ownH rfl (by omega) (gf := 125) (lb := #[.pointer (some ⟨w1.heap.size, 0, none⟩)]) rfl trivial (enters_of Try.func125 (by kernel_rfl) rfl)
    (back_stops Fence.wide (6 - 1) trivial rfl (by omega) w1.heap.size w2.heap.size A c l hn w2 (by omega) (Nat.le_refl _) hbx.cell hr2) belowK_t (belowK_b (Nat.le_refl _)) (Below.refl _ _) (fun _ => rfl)
    (fun pre W => (∀ i ∈ pre, starIs s (gE l i) = false) ∧ Below w2.heap.size w2 W)
    (fun cd pre W => ((cd = .ret ∧ ∃ pre' i, pre = pre' ++ [i] ∧ (∀ j ∈ pre', starIs s (gE l j) = false) ∧ starIs s (gE l i) = true ∧ Bk W (w.heap.size + 1) 49 #[.int .i64 (gE l i).time, .string (gE l i).star, .string (gE l i).obs, .int .i64 (gE l i).mag, .bool (gE l i).fain]) ∧ Boxed W (w.heap.size + 1 + 1) 2 (.int .i64 0)) ∧ Below w.heap.size w W)
    (fun pre X Y row hs hg hr => ⟨hs.1, ownFrom_below (β := Unit) (Nat.le_refl _) (Nat.le_refl _) () X Y row hs.2 hg hr⟩)
    (fun cd pre X Y row hs hg hr => by
      obtain ⟨⟨⟨e1, p, i, e2, e3, e4, e5⟩, e6⟩, e7⟩ := hs
      exact ⟨⟨⟨e1, p, i, e2, e3, e4, heap_own e5 hg hr⟩, heap_own e6 hg hr⟩, ownFrom_below (β := Unit) (Nat.le_refl _) HB2.size () X Y row e7 hg hr⟩)
    ⟨by simp, Below.refl _ _⟩
    (fun i a' W => ∃ Bx, Bk W Bx 49 #[.int .i64 (gE l i).time, .string (gE l i).star, .string (gE l i).obs, .int .i64 (gE l i).mag, .bool (gE l i).fain] ∧ a' = { tmps := #[.slice A l.length c, .string s, undef, .pointer (some ⟨w.heap.size, 0, none⟩), .pointer (some ⟨w.heap.size + 1, 0, none⟩), .pointer (some ⟨w.heap.size + 1 + 1, 0, none⟩), undef, .pointer (some ⟨Bx, 0, none⟩), .bool false, .slice A l.length c, .bool true, .bool false, undef, .bool false, .string s, .bool true, .bool false, undef, .slice A l.length c, .func (.func 125) #[] #[.pointer (some ⟨w1.heap.size, 0, none⟩)], .int .i64 (i : Int), .agg #[.int .i64 (gE l i).time, .string (gE l i).star, .string (gE l i).obs, .int .i64 (gE l i).mag, .bool (gE l i).fain], undef, undef, undef, undef, undef, undef], defers := [] })
    (fun i a' _ X Y row hs hg hr => by obtain ⟨Bx, e1, e2⟩ := hs; exact ⟨Bx, heap_own e1 hg hr, e2⟩)
    ?assign ?body ?done ?stop
  case assign =>
    rintro lp pre i W K ⟨hp, hB1⟩ hK
    dsimp only [encB]
    gi_wp2
    exact hK _ _ ((KeepsOthers.alloc _ _).from _) ((Below.refl _ W).alloc hB1.size _) ⟨hp, hB1.alloc hB1.size _⟩ ⟨W.heap.size, Bk.new _ _ _, rfl⟩
  case body =>
    rintro lp pre i a' W hlp hrl ⟨hp, hB1⟩ ⟨Bx, bx, rfl⟩ hlt
    have b1 := bR2.below hB1 (by omega)
    have b2 : Boxed W w.heap.size 9 (.string s) := (hB1.block _ (by omega)).trans bS2
    have b3 : Boxed W (w.heap.size + 1 + 1) 2 (.int .i64 0) := (hB1.block _ (by omega)).trans bC2
    have sS := b2.cell
    have z0 := bx.cell 0
    have z1 := bx.cell 1
    have z2 := bx.cell 2
    have z3 := bx.cell 3
    have z4 := bx.cell 4
    have x0 := b1.cell 0
    have x1 := b1.cell 1
    have x2 := b1.cell 2
    have x3 := b1.cell 3
    have x4 := b1.cell 4
    have f0 := b1.frozen 0
    have f1 := b1.frozen 1
    have f2 := b1.frozen 2
    have f3 := b1.frozen 3
    have f4 := b1.frozen 4
    have y0 := b3.cell
    have g0 := b3.frozen
    simp at x0 x1 x2 x3 x4 z0 z1 z2 z3 z4
    have H1 := hide b1
    have H2 := hide b2
    have H3 := hide b3
    have HBB := hide hB1
    have HP := hide hp
    obtain ⟨e, he⟩ : ∃ e, e = gE l i := ⟨_, rfl⟩
    have HE := hide he
    have HBX := hide bx
    simp only [← he] at z0 z1 z2 z3 z4 ⊢
    clear he b1 b2 b3 hB1 hp hrl bx
    cases hq : (e.star.toList == s.toList)
    · have HQ := hide (show starIs s (gE l i) = false from by rw [← HE.out]; exact hq)
      gi_wp2
      refine ⟨KeepsFrom.refl _ _, Below.refl _ _, fun j hj => ?_, HBB.out⟩
      rcases List.mem_append.1 hj with hj | hj
      · exact HP.out j hj
      · simp at hj
        subst hj
        exact HQ.out
    · have HQ := hide (show starIs s (gE l i) = true from by rw [← HE.out]; exact hq)
      gi_wp2
      refine ⟨?_, ⟨⟨rfl, pre, i, rfl, HP.out, HQ.out, ?_⟩, ?_⟩, ?_⟩
      · iterate 6 refine KeepsFrom.trans ?_ ((KeepsOthers.setCell _ _ _).from _)
        exact KeepsFrom.refl _ _
      · have h6 := (((((H1.out.set_ 0 (.int .i64 e.time)).set_ 1 (.string e.star)).set_ 2 (.string e.obs)).set_ 3 (.int .i64 e.mag)).set_ 4 (.bool e.fain)).far (p := ⟨w.heap.size + 1 + 1, 0, none⟩) (by simp) (.int .i64 0)
        rw [← HE.out]
        simpa using h6
      · have h6 : Bk W (w.heap.size + 1 + 1) 2 #[.int .i64 0] := H3.out
        have h7 := (((((h6.far (p := ⟨w.heap.size + 1, 0, none⟩) (by simp) (.int .i64 e.time)).far (p := ⟨w.heap.size + 1, 1, none⟩) (by simp) (.string e.star)).far (p := ⟨w.heap.size + 1, 2, none⟩) (by simp) (.string e.obs)).far (p := ⟨w.heap.size + 1, 3, none⟩) (by simp) (.int .i64 e.mag)).far (p := ⟨w.heap.size + 1, 4, none⟩) (by simp) (.bool e.fain)).set_ 0 (.int .i64 0)
        simp only [List.setIfInBounds_toArray, List.set_cons_zero] at h7
        exact h7
      · iterate 6 refine Below.setCell ?_ (by dsimp only; omega) _
        exact HB2.trans (HBB.out.mono HB2.size)
  case done =>
    rintro D ys W hD rfl ⟨hp, hB1⟩ hK
    have R := hide (show lastOf l s = (zeroE, 3) from by rw [R0.out]; exact lastAt_none _ hp)
    have b1 := bR2.below hB1 (by omega)
    have b3 : Bk W (w.heap.size + 1 + 1) 2 #[.int .i64 0] := (hB1.block _ (by omega)).trans bC2
    have x0 := b1.cell 0
    have x1 := b1.cell 1
    have x2 := b1.cell 2
    have x3 := b1.cell 3
    have x4 := b1.cell 4
    have f0 := b1.frozen 0
    have f1 := b1.frozen 1
    have f2 := b1.frozen 2
    have f3 := b1.frozen 3
    have f4 := b1.frozen 4
    have y0 := b3.cell 0
    have g0 := b3.frozen 0
    simp at x0 x1 x2 x3 x4 y0
    have H1 := hide b1
    have H3 := hide b3
    have HBB := hide hB1
    have HK := hide hK
    clear b1 b3 hp hB1 hK
    gi_wp2
    have c1 := ((((((H1.out.set_ 0 (.int .i64 0)).set_ 1 (.string ⟨#[]⟩)).set_ 2 (.string ⟨#[]⟩)).set_ 3 (.int .i64 0)).set_ 4 (.bool false)).far (p := ⟨w.heap.size + 1 + 1, 0, none⟩) (by simp) (.int .i64 3))
    have c3 := (((((H3.out.far (p := ⟨w.heap.size + 1, 0, none⟩) (by simp) (.int .i64 0)).far (p := ⟨w.heap.size + 1, 1, none⟩) (by simp) (.string ⟨#[]⟩)).far (p := ⟨w.heap.size + 1, 2, none⟩) (by simp) (.string ⟨#[]⟩)).far (p := ⟨w.heap.size + 1, 3, none⟩) (by simp) (.int .i64 0)).far (p := ⟨w.heap.size + 1, 4, none⟩) (by simp) (.bool false)).set_ 0 (.int .i64 3)
    have hK' := ((((((KeepsOthers.setCell W ⟨w.heap.size + 1, 0, none⟩ (.int .i64 0)).trans (KeepsOthers.setCell _ ⟨w.heap.size + 1, 1, none⟩ (.string ⟨#[]⟩))).trans (KeepsOthers.setCell _ ⟨w.heap.size + 1, 2, none⟩ (.string ⟨#[]⟩))).trans (KeepsOthers.setCell _ ⟨w.heap.size + 1, 3, none⟩ (.int .i64 0))).trans (KeepsOthers.setCell _ ⟨w.heap.size + 1, 4, none⟩ (.bool false))).trans (KeepsOthers.setCell _ ⟨w.heap.size + 1 + 1, 0, none⟩ (.int .i64 3))).same D _ HK.out rfl
    refine ⟨by simp, .inl ⟨_, _, rfl, run_takeDeferred hK', ?_⟩⟩
    simp only [List.setIfInBounds_toArray, List.set_cons_zero, List.set_cons_succ] at c1 c3
    have d1 : Bk _ (w.heap.size + 1) 49 _ := heap_put (.deferred none) c1 hK' rfl
    have d3 : Bk _ (w.heap.size + 1 + 1) 2 _ := heap_put (.deferred none) c3 hK' rfl
    have q0 := d1.cell 0
    have q1 := d1.cell 1
    have q2 := d1.cell 2
    have q3 := d1.cell 3
    have q4 := d1.cell 4
    have q5 := d3.cell 0
    simp only [List.getElem?_toArray, List.getElem?_cons_zero, List.getElem?_cons_succ] at q0 q1 q2 q3 q4 q5
    refine ⟨.tuple #[.agg #[.int .i64 0, .string ⟨#[]⟩, .string ⟨#[]⟩, .int .i64 0, .bool false], .int .i64 3], ?_, ret_last R.out, ?_⟩
    · simp [results, Try.f36, go_sem, q0, q1, q2, q3, q4, q5]
    · refine Below.trans ?_ (belowK_b (w := w) (Nat.le_refl _) _ D _ _ (by omega) hK' rfl rfl)
      iterate 6 refine Below.setCell ?_ (by dsimp only; omega) _
      exact HB2.trans (HBB.out.mono HB2.size)
  case stop =>
    rintro D cd pre W hD hpre ⟨⟨⟨rfl, pre', i, rfl, hp, hq, b1⟩, b3⟩, hB⟩ hK
    have R := hide (show lastOf l s = (gE l i, 0) from by rw [R0.out]; exact lastAt_prefix _ _ _ hpre hp hq)
    gi_wp2
    refine ⟨by simp, .inl ⟨_, _, rfl, run_takeDeferred hK, ?_⟩⟩
    have d1 : Bk _ (w.heap.size + 1) 49 _ := heap_put (.deferred none) b1 hK rfl
    have d3 : Bk _ (w.heap.size + 1 + 1) 2 _ := heap_put (.deferred none) b3 hK rfl
    have q0 := d1.cell 0
    have q1 := d1.cell 1
    have q2 := d1.cell 2
    have q3 := d1.cell 3
    have q4 := d1.cell 4
    have q5 := d3.cell 0
    simp only [List.getElem?_toArray, List.getElem?_cons_zero, List.getElem?_cons_succ] at q0 q1 q2 q3 q4 q5
    refine ⟨.tuple #[.agg #[.int .i64 (gE l i).time, .string (gE l i).star, .string (gE l i).obs, .int .i64 (gE l i).mag, .bool (gE l i).fain], .int .i64 0], ?_, ret_last R.out, ?_⟩
    · simp [results, Try.f36, go_sem, q0, q1, q2, q3, q4, q5]
    · exact hB.trans (belowK_b (w := w) (Nat.le_refl _) W D _ _ (by omega) hK rfl rfl)
theorem lastb_end : True := trivial
end Go.Proofs.Ytldgelkgobocdaa
