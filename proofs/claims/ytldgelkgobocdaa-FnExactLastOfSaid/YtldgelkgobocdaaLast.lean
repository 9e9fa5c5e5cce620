/-
  Contracts: the last estimate of a star.
-/
import Derived.Test.YtldgelkgobocdaaFilt
import Derived.Test.YtldgelkgobocdaaValE
import Derived.Test.YtldgelkgobocdaaName
import Derived.Test.YtldgelkgobocdaaRecE
import Derived.Test.YtldgelkgobocdaaKp
import Derived.RangeFuncNested
import Derived.RangeFuncBound
import Derived.RangeFuncLeaves
import Derived.RangeFuncFrom
import Derived.Shelf.Abstract
import Derived.Shelf.RegionOpen
import Derived.OwnWalkIn
import Derived.TacticsInMore
import Derived.LoopNIn
import Derived.LoopIn
import Derived.Outline
namespace Go.Proofs.Ytldgelkgobocdaa
open Go.RowKit Pl
set_option linter.unusedVariables false
set_option linter.unusedSimpArgs false
attribute [local go_sem] Oper.semAt_some
def zeroE : EstT := ⟨0, ⟨#[]⟩, ⟨#[]⟩, 0, false⟩
/-- Element i. -/
def gE (l : List EstT) (i : Nat) : EstT := l.getD i zeroE
def starIs (s : ByteArray) (x : EstT) : Bool := x.star.toList == s.toList
def lastAt (q : EstT → Bool) (l : List EstT) : Nat → EstT × Int
  | 0 => (zeroE, 3)
  | j + 1 => if q (gE l j) = true then (gE l j, 0) else lastAt q l j
def lastOf (l : List EstT) (s : ByteArray) : EstT × Int := if validB estOk estLt 100 l = true then (if nameB s = true then lastAt (starIs s) l l.length else (zeroE, 2)) else (zeroE, 1)
section
variable {q : EstT → Bool} {l : List EstT}
theorem lastAt_hit {j : Nat} (h : q (gE l j) = true) : lastAt q l (j + 1) = (gE l j, 0) := by rw [lastAt, if_pos h]
theorem lastAt_miss {j : Nat} (h : q (gE l j) = false) : lastAt q l (j + 1) = lastAt q l j := by rw [lastAt, if_neg (by rw [h]; simp)]
theorem getD_of {i : Nat} (h : i < l.length) : gE l i = l[i] := by rw [gE, List.getD_eq_getElem?_getD, List.getElem?_eq_getElem h]; rfl
/-- What has come from the end on. -/
def downs (n : Nat) : List Nat := (List.range n).reverse
theorem downs_succ (n : Nat) : downs (n + 1) = n :: downs n := by simp [downs, List.range_succ]
theorem downs_len (n : Nat) : (downs n).length = n := by simp [downs]
theorem lastAt_prefix : ∀ (n : Nat) (pre : List Nat) (i : Nat), pre ++ [i] <+: downs n → (∀ j ∈ pre, q (gE l j) = false) → q (gE l i) = true → lastAt q l n = (gE l i, 0)
  | 0, pre, i, h, _, _ => by
    have := h.length_le
    simp [downs] at this
  | n + 1, [], i, h, _, hq => by
    rw [downs_succ] at h
    have e : i = n := by
      obtain ⟨t, ht⟩ := h
      simp at ht
      exact ht.1
    subst e
    exact lastAt_hit hq
  | n + 1, p :: ps, i, h, hp, hq => by
    rw [downs_succ] at h
    have h2 := (List.cons_prefix_cons.1 (show p :: (ps ++ [i]) <+: n :: downs n from h))
    obtain ⟨rfl, h3⟩ := h2
    rw [lastAt_miss (hp p (by simp))]
    exact lastAt_prefix p ps i h3 (fun j hj => hp j (List.mem_cons_of_mem _ hj)) hq
theorem lastAt_none : ∀ (n : Nat), (∀ j ∈ downs n, q (gE l j) = false) → lastAt q l n = (zeroE, 3)
  | 0, _ => rfl
  | n + 1, h => by
    rw [downs_succ] at h
    rw [lastAt_miss (h n (by simp))]
    exact lastAt_none n (fun j hj => h j (List.mem_cons_of_mem _ hj))
end
theorem ret_last {p : EstT × Int} {x : EstT} {n : Int} (h : p = (x, n)) : Ending.returned (.tuple #[.agg #[.int .i64 x.time, .string x.star, .string x.obs, .int .i64 x.mag, .bool x.fain], .int .i64 n]) = .returned (.tuple #[.agg #[.int .i64 p.1.time, .string p.1.star, .string p.1.obs, .int .i64 p.1.mag, .bool p.1.fain], .int .i64 p.2]) := by rw [h]
set_option maxHeartbeats 16000000 in
set_option maxRecDepth 100000 in
theorem spec_LastOf_any (A : Option Addr) (c : Nat) (l : List EstT) (s : ByteArray) (w : World) (hn : l.length ≤ 1048576) (hs : s.size ≤ maxLen) (hok : ∀ x ∈ l, x.ok) (hr : Rd w w.heap.size 5 A l.length (l.flatMap EstT.cells)) :
    Calls Try.prog 34 #[.slice A l.length c, .string s] w fun e w' => e = .returned (.tuple #[.agg #[.int .i64 (lastOf l s).1.time, .string (lastOf l s).1.star, .string (lastOf l s).1.obs, .int .i64 (lastOf l s).1.mag, .bool (lastOf l s).1.fain], .int .i64 (lastOf l s).2]) ∧ Below w.heap.size w w' := by
  obtain ⟨w0, hw0⟩ : ∃ w0, w0 = w.alloc (.cells #[.int .i64 0, .string ⟨#[]⟩, .string ⟨#[]⟩, .int .i64 0, .bool false] 49) := ⟨_, rfl⟩
  have E0 := hide (show Below w.heap.size w w0 from hw0 ▸ (Below.refl _ _).alloc (Nat.le_refl _) _)
  have hz0 : w.heap.size < w0.heap.size := by rw [hw0]; simp
  have BK := hide (show Bk w0 w.heap.size 49 #[.int .i64 0, .string ⟨#[]⟩, .string ⟨#[]⟩, .int .i64 0, .bool false] from by rw [hw0]; exact Bk.new _ _ _)
  have HW0 := hide hw0
  have HR := hide hr
  have OK := hide hok
  clear hw0 hr hok
  cases hv : validB estOk estLt 100 l
  · have HV := hide hv
    have R := hide (show lastOf l s = (zeroE, 1) from by rw [lastOf, hv]; rfl)
    clear hv
    go_enter Try.func34, Try.ntmps34
    go_wp2_with fail
    rw [← HW0.out]
    refine (l06Ok_any A c l w0 hn OK.out ((HR.out.below E0.out).more E0.out.size)).mono ?_
    rintro e w1 ⟨rfl, b⟩
    rw [HV.out]
    have T1 := hide b
    clear b
    have hB := hide (BK.out.below T1.out hz0)
    have HB := hide (show Below w.heap.size w w1 from E0.out.trans (T1.out.mono E0.out.size))
    have hz1 : w.heap.size < w1.heap.size := Nat.lt_of_lt_of_le hz0 T1.out.size
    have x0 := hB.out.cell 0
    have f0 := hB.out.frozen 0
    have x1 := hB.out.cell 1
    have f1 := hB.out.frozen 1
    have x2 := hB.out.cell 2
    have f2 := hB.out.frozen 2
    have x3 := hB.out.cell 3
    have f3 := hB.out.frozen 3
    have x4 := hB.out.cell 4
    have f4 := hB.out.frozen 4
    simp at x0 x1 x2 x3 x4
    have HBB := HB.out
    go_wp2
    exact bodyPost_ret (v := .tuple #[.agg #[.int .i64 0, .string ⟨#[]⟩, .string ⟨#[]⟩, .int .i64 0, .bool false], .int .i64 1]) (by simp [results, Try.results34, go_sem, x0, x1, x2, x3, x4]) rfl ⟨ret_last R.out, by
        iterate 5 refine Below.setCell ?_ (by first | omega | (dsimp only; omega)) _
        exact HBB⟩
  cases hm : nameB s
  · have HV := hide hv
    have HM := hide hm
    have R := hide (show lastOf l s = (zeroE, 2) from by rw [lastOf, hv, hm]; rfl)
    clear hv hm
    go_enter Try.func34, Try.ntmps34
    go_wp2_with fail
    rw [← HW0.out]
    refine (l06Ok_any A c l w0 hn OK.out ((HR.out.below E0.out).more E0.out.size)).mono ?_
    rintro e w1 ⟨rfl, b⟩
    rw [HV.out]
    have T1 := hide b
    clear b
    have hB := hide (BK.out.below T1.out hz0)
    have HB := hide (show Below w.heap.size w w1 from E0.out.trans (T1.out.mono E0.out.size))
    have hz1 : w.heap.size < w1.heap.size := Nat.lt_of_lt_of_le hz0 T1.out.size
    go_wp2_with fail
    refine (spec_IsName_any s _ hs).mono ?_
    rintro e w' ⟨rfl, rfl⟩
    rw [HM.out]
    have x0 := hB.out.cell 0
    have f0 := hB.out.frozen 0
    have x1 := hB.out.cell 1
    have f1 := hB.out.frozen 1
    have x2 := hB.out.cell 2
    have f2 := hB.out.frozen 2
    have x3 := hB.out.cell 3
    have f3 := hB.out.frozen 3
    have x4 := hB.out.cell 4
    have f4 := hB.out.frozen 4
    simp at x0 x1 x2 x3 x4
    have HBB := HB.out
    go_wp2
    exact bodyPost_ret (v := .tuple #[.agg #[.int .i64 0, .string ⟨#[]⟩, .string ⟨#[]⟩, .int .i64 0, .bool false], .int .i64 2]) (by simp [results, Try.results34, go_sem, x0, x1, x2, x3, x4]) rfl ⟨ret_last R.out, by
        iterate 5 refine Below.setCell ?_ (by first | omega | (dsimp only; omega)) _
        exact HBB⟩
  have R0 := hide (show lastOf l s = lastAt (starIs s) l l.length from by rw [lastOf, hv, hm]; rfl)
  have HV := hide hv
  have HM := hide hm
  clear hv hm
  go_enter Try.func34, Try.ntmps34
  go_wp2_with fail
  rw [← HW0.out]
  refine (l06Ok_any A c l w0 hn OK.out ((HR.out.below E0.out).more E0.out.size)).mono ?_
  rintro e w1 ⟨rfl, b⟩
  rw [HV.out]
  have T1 := hide b
  clear b
  have hB := hide (BK.out.below T1.out hz0)
  have HB := hide (show Below w.heap.size w w1 from E0.out.trans (T1.out.mono E0.out.size))
  have hz1 : w.heap.size < w1.heap.size := Nat.lt_of_lt_of_le hz0 T1.out.size
  go_wp2_with fail
  refine (spec_IsName_any s _ hs).mono ?_
  rintro e w' ⟨rfl, rfl⟩
  rw [HM.out]
  have HL := hide ((HR.out.below (E0.out.trans (T1.out.mono E0.out.size))))
  go_wp2_with fail
  go_loop [6] (fun i => ∃ k : Int, i = .int .i64 k ∧ -1 ≤ k ∧ k < (l.length : Int) ∧ Hid (lastAt (starIs s) l l.length = lastAt (starIs s) l (k + 1).toNat)) (fun i => (intOf i + 1).toNat)
  case atStart => exact ⟨(l.length : Int) - 1, rfl, by omega, by omega, by rw [show ((l.length : Int) - 1 + 1).toNat = l.length from by omega]; exact rfl⟩
  case round =>
    obtain ⟨k, rfl, h1, h2, hd⟩ := hrel
    by_cases h0 : 0 ≤ k
    · obtain ⟨j, rfl⟩ := Int.eq_ofNat_of_zero_le h0
      have hj : j < l.length := by omega
      obtain ⟨g, off, rfl, hg, hc⟩ := HL.out.elem EstT.cells_len hj
      have e0 : w1.cell? ⟨g, off + j * 5, none⟩ = some (.int .i64 l[j].time) := hc 0 _ rfl
      have e1 : w1.cell? ⟨g, off + j * 5 + 1, none⟩ = some (.string l[j].star) := hc 1 _ rfl
      have e2 : w1.cell? ⟨g, off + j * 5 + 2, none⟩ = some (.string l[j].obs) := hc 2 _ rfl
      have e3 : w1.cell? ⟨g, off + j * 5 + 3, none⟩ = some (.int .i64 l[j].mag) := hc 3 _ rfl
      have e4 : w1.cell? ⟨g, off + j * 5 + 4, none⟩ = some (.bool l[j].fain) := hc 4 _ rfl
      have hgd := getD_of hj
      have hsz := hB.out.lt
      clear hc
      cases hq : (l[j].star.toList == s.toList)
      · have HM2 := hide (show lastAt (starIs s) l (j + 1) = lastAt (starIs s) l j from lastAt_miss (by rw [hgd]; exact hq))
        clear hgd
        go_wp2
        go_round
        case rel => exact ⟨(j : Int) - 1, by go_num, by omega, by omega, hide (by rw [show ((j : Int) - 1 + 1).toNat = j from by omega, ← HM2.out]; exact hd.out)⟩
        case measure => first | (simp [intOf]; done) | (simp [intOf]; omega)
      · have R := hide (show lastOf l s = (l[j], 0) from by
          rw [R0.out, hd.out]
          show lastAt (starIs s) l (j + 1) = _
          rw [lastAt_hit (by rw [hgd]; exact hq), hgd])
        clear hgd
        have x0 := hB.out.cell 0
        have f0 := hB.out.frozen 0
        have x1 := hB.out.cell 1
        have f1 := hB.out.frozen 1
        have x2 := hB.out.cell 2
        have f2 := hB.out.frozen 2
        have x3 := hB.out.cell 3
        have f3 := hB.out.frozen 3
        have x4 := hB.out.cell 4
        have f4 := hB.out.frozen 4
        simp at x0 x1 x2 x3 x4
        have HBB := HB.out
        go_wp2
        exact bodyPost_ret (v := .tuple #[.agg #[.int .i64 l[j].time, .string l[j].star, .string l[j].obs, .int .i64 l[j].mag, .bool l[j].fain], .int .i64 0]) (by simp [results, Try.results34, go_sem, x0, x1, x2, x3, x4]) rfl ⟨ret_last R.out, by
        iterate 5 refine Below.setCell ?_ (by first | omega | (dsimp only; omega)) _
        exact HBB⟩
    · have hk : k = -1 := by omega
      subst hk
      have R := hide (show lastOf l s = (zeroE, 3) from by rw [R0.out, hd.out]; rfl)
      have x0 := hB.out.cell 0
      have f0 := hB.out.frozen 0
      have x1 := hB.out.cell 1
      have f1 := hB.out.frozen 1
      have x2 := hB.out.cell 2
      have f2 := hB.out.frozen 2
      have x3 := hB.out.cell 3
      have f3 := hB.out.frozen 3
      have x4 := hB.out.cell 4
      have f4 := hB.out.frozen 4
      simp at x0 x1 x2 x3 x4
      have HBB := HB.out
      go_wp2
      exact bodyPost_ret (v := .tuple #[.agg #[.int .i64 0, .string ⟨#[]⟩, .string ⟨#[]⟩, .int .i64 0, .bool false], .int .i64 3]) (by simp [results, Try.results34, go_sem, x0, x1, x2, x3, x4]) rfl ⟨ret_last R.out, by
        iterate 5 refine Below.setCell ?_ (by first | omega | (dsimp only; omega)) _
        exact HBB⟩
theorem last_end : True := trivial
end Go.Proofs.Ytldgelkgobocdaa
