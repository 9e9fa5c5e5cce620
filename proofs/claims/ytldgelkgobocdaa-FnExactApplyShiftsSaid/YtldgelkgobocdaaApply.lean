/-
  Contracts: shifts laid on observers.
-/
import Derived.Test.YtldgelkgobocdaaFilt
import Derived.Test.YtldgelkgobocdaaValO
import Derived.Test.YtldgelkgobocdaaInts
import Derived.Test.YtldgelkgobocdaaCopyO
import Derived.Test.YtldgelkgobocdaaMarkT
import Derived.Tactics
import Derived.Tactics2
import Derived.WalkKit
import Derived.WalkSpells
import Derived.StillTactics
import Derived.OwnWalk
import Derived.Laws.Pointers
import Derived.Deep.RegionHeld3
import Derived.Deep.AppendLies
import Derived.OwnWalk
import Derived.Laws.AppendOwn
import Derived.Outline
namespace Go.Proofs.Ytldgelkgobocdaa
open Go.RowKit Pl
set_option linter.unusedVariables false
set_option linter.unusedSimpArgs false
def zipS (l : List ObsT) (s : List Int) : List ObsT := List.zipWith (fun x t => { name := x.name, shift := t }) l s
theorem zipS_len {l : List ObsT} {s : List Int} (h : s.length = l.length) : (zipS l s).length = l.length := by simp [zipS, h]
theorem zipS_at {l : List ObsT} {s : List Int} {i : Nat} (h : i < (zipS l s).length) (h1 : i < l.length) (h2 : i < s.length) : (zipS l s)[i] = { name := l[i].name, shift := s[i] } := by simp [zipS]
theorem take_more {α : Type} {l : List α} {k : Nat} (h : k < l.length) : l.take (k + 1) = l.take k ++ [l[k]] := by
  rw [List.take_add_one, List.getElem?_eq_getElem h]; rfl
theorem mix_list {l : List ObsT} {s : List Int} (h2 : s.length = l.length) {k : Nat} (hk : k < l.length) (hs : k < s.length) :
    ((zipS l s).take (k + 1) ++ l.drop (k + 1)).flatMap ObsT.cells = (((zipS l s).take k ++ l.drop k).flatMap ObsT.cells).set (k * 2 + 1) (.int .i64 s[k]) := by
  have hz : k < (zipS l s).length := by rw [zipS_len h2]; exact hk
  have hp : (((zipS l s).take k).flatMap ObsT.cells).length = k * 2 := by
    rw [flat_len ObsT.cells 2 ObsT.cells_len, List.length_take, Nat.min_eq_left (by omega)]
  rw [take_more hz, List.drop_eq_getElem_cons hk, zipS_at hz hk hs, List.flatMap_append, List.flatMap_append, List.flatMap_append, List.flatMap_cons, List.set_append_right _ _ (by rw [hp]; omega), hp, show k * 2 + 1 - k * 2 = 1 from by omega]
  simp only [List.flatMap_cons, List.flatMap_nil, ObsT.cells, List.append_assoc, List.cons_append, List.nil_append, List.append_nil, List.set_cons_succ, List.set_cons_zero]
theorem mix_step {l : List ObsT} {s : List Int} (h2 : s.length = l.length) {k : Nat} (hk : k < l.length) (hks : k < s.length) {cs : Array Value} (hs : l.length * 2 ≤ cs.size)
    (h : ∀ t, t < l.length * 2 → cs[t]? = (((zipS l s).take k ++ l.drop k).flatMap ObsT.cells)[t]?) :
    ∀ t, t < l.length * 2 → (cs.setIfInBounds (k * 2 + 1) (.int .i64 s[k]))[t]? = (((zipS l s).take (k + 1) ++ l.drop (k + 1)).flatMap ObsT.cells)[t]? := by
  intro t ht
  rw [mix_list h2 hk hks]
  by_cases e : k * 2 + 1 = t
  · subst e
    rw [Array.getElem?_setIfInBounds_self_of_lt (by omega), List.getElem?_set_self (by rw [flat_len ObsT.cells 2 ObsT.cells_len, List.length_append, List.length_take, List.length_drop, zipS_len h2]; omega)]
  · rw [Array.getElem?_setIfInBounds_ne e, List.getElem?_set_ne e, h t ht]
def appOf (l : List ObsT) (s : List Int) : List ObsT × Int := if validB obsOk obsLt 40 l = true then (if s.length = l.length then (if allI (-2000) 2000 s = true then (zipS l s, 0) else ([], 2)) else ([], 2)) else ([], 1)
theorem appOf_le (l : List ObsT) (s : List Int) : (appOf l s).1.length ≤ l.length := by
  unfold appOf
  repeat' split
  all_goals first | (rename_i h _; exact Nat.le_of_eq (zipS_len h)) | simp
theorem l05Shifts_any (A : Option Addr) (c : Nat) (l : List Int) (m : Int) (w : World) (hm : 0 ≤ m) (hm2 : m ≤ 1000000) (hl : l.length ≤ 1048576) (hr : Rd w w.heap.size 1 A l.length (ints l)) :
    Calls Try.prog 89 #[.slice A l.length c, .int .i64 m] w fun e w' => e = .returned (.bool (allI (-m) m l)) ∧ w = w' := by
  go_enter Try.func89, Try.ntmps89
  go_wp2
  go_loop [5] (fun i => ∃ k : Nat, k ≤ l.length ∧ i = .int .i64 k ∧ Hid (∀ j (h : j < k) (h' : j < l.length), inB (l[j]'h') (-m) m = true)) (fun i => l.length - (intOf i).toNat)
  case atStart => exact ⟨0, by omega, rfl, fun j hj => absurd hj (by omega)⟩
  case round =>
    obtain ⟨k, hk, rfl, hs⟩ := hrel
    by_cases hlt : k < l.length
    · obtain ⟨g, off, rfl, hg, hc⟩ := hr.int hlt
      clear hr
      cases hb : inB l[k] (-m) m
      · go_wp2_with (go_at_call 77; refine (l00In_any _ _ _ _).mono ?_; rintro e w' ⟨rfl, rfl⟩)
        go_ret
        refine ⟨ret_bool ?_, rfl⟩
        cases hm : allI (-m) m l
        · rfl
        · have := allI_at hm hlt; rw [hb] at this; cases this
      · go_wp2_with (go_at_call 77; refine (l00In_any _ _ _ _).mono ?_; rintro e w' ⟨rfl, rfl⟩)
        go_round
        case rel =>
          refine ⟨k + 1, by omega, by go_num, fun j hj hj' => ?_⟩
          rcases Nat.lt_or_ge j k with h0 | h0
          · exact hs.out j h0 hj'
          · have : j = k := by omega
            subst this; exact hb
        case measure => simp [intOf]; omega
    · obtain rfl : k = l.length := by omega
      clear hr
      go_wp2
      go_ret
      refine ⟨ret_bool ?_, rfl⟩
      unfold allI
      symm
      rw [List.all_eq_true]
      intro x hx
      obtain ⟨i, hi, rfl⟩ := List.mem_iff_getElem.1 hx
      exact hs.out i hi hi
theorem l05Shifts_n (A : Option Addr) (c n : Nat) (l : List Int) (m : Int) (w : World) (h : l.length = n) (hm : 0 ≤ m) (hm2 : m ≤ 1000000) (hl : l.length ≤ 1048576) (hr : Rd w w.heap.size 1 A l.length (ints l)) :
    Calls Try.prog 89 #[.slice A n c, .int .i64 m] w fun e w' => e = .returned (.bool (allI (-m) m l)) ∧ w = w' := by
  subst h
  exact l05Shifts_any A c l m w hm hm2 hl hr
theorem allIn_n (A : Option Addr) (c n : Nat) (l : List Int) (lo hi : Int) (w : World) (h : l.length = n) (hl : l.length ≤ 1048576) (hr : Rd w w.heap.size 1 A l.length (ints l)) :
    Calls Try.prog 90 #[.slice A n c, .int .i64 lo, .int .i64 hi] w fun e w' => e = .returned (.bool (allI lo hi l)) ∧ Below w.heap.size w w' := by
  subst h
  exact allIn_any A c l lo hi w hl hr
set_option maxHeartbeats 2000000 in
set_option maxRecDepth 100000 in
theorem spec_ApplyShifts_any (ad : Addr) (c : Nat) (l : List ObsT) (A2 : Option Addr) (c2 : Nat) (s : List Int) (w : World) (hn : l.length ≤ 1048576) (hn2 : s.length ≤ 1048576) (hok : ∀ x ∈ l, x.ok) (hr : Rd w w.heap.size 2 (some ad) l.length (l.flatMap ObsT.cells)) (hr2 : Rd w w.heap.size 1 A2 s.length (ints s)) :
    Calls Try.prog 39 #[.slice (some ad) l.length c, .slice A2 s.length c2] w fun e w' => ∃ A' c', e = .returned (.tuple #[.slice A' (appOf l s).1.length c', .int .i64 (appOf l s).2]) ∧ Own w' w.heap.size 77 2 A' (appOf l s).1.length c' ((appOf l s).1.flatMap ObsT.cells) ∧ Below w.heap.size w w' := by
  obtain ⟨i0, hi, hz0, hz1, hz2⟩ := info_parts info_Observer
  have HR := hide hr
  have HS := hide hr2
  have HO := hide hok
  clear hr hr2 hok
  cases h1 : validB obsOk obsLt 40 l
  · rw [show appOf l s = ([], 1) from by simp [appOf, h1]]
    go_enter Try.func39, Try.ntmps39
    go_wp2_with fail
    refine (l05Ok_any (some ad) c l _ hn HO.out HR.out).mono ?_
    rintro e w1 ⟨rfl, b⟩
    have B1 := hide b
    have R1 := hide ((HR.out.below b).more b.size)
    have S1 := hide ((HS.out.below b).more b.size)
    clear b
    go_wp2
    go_ret2
    exact ⟨none, 0, rfl, Own.none_, B1.out⟩
  by_cases h2 : s.length = l.length
  rotate_left
  · rw [show appOf l s = ([], 2) from by simp [appOf, h1, h2]]
    have h3 : (s.length == l.length) = false := by simp [h2]
    go_enter Try.func39, Try.ntmps39
    go_wp2_with fail
    refine (l05Ok_any (some ad) c l _ hn HO.out HR.out).mono ?_
    rintro e w1 ⟨rfl, b⟩
    have B1 := hide b
    have R1 := hide ((HR.out.below b).more b.size)
    have S1 := hide ((HS.out.below b).more b.size)
    clear b
    go_wp2_with fail
    go_ret2
    exact ⟨none, 0, rfl, Own.none_, B1.out⟩
  have ZL := hide (zipS_len h2)
  have H2 := hide h2
  cases h3 : allI (-2000) 2000 s
  · rw [show appOf l s = ([], 2) from by simp [appOf, h1, h2, h3]]
    rw [h2]
    clear h2
    go_enter Try.func39, Try.ntmps39
    go_wp2_with fail
    refine (l05Ok_any (some ad) c l _ hn HO.out HR.out).mono ?_
    rintro e w1 ⟨rfl, b⟩
    have B1 := hide b
    have R1 := hide ((HR.out.below b).more b.size)
    have S1 := hide ((HS.out.below b).more b.size)
    clear b
    go_wp2_with (go_at_call 89; refine (l05Shifts_n A2 c2 _ s _ _ H2.out (by omega) (by omega) hn2 S1.out).mono ?_; rintro e w' ⟨rfl, rfl⟩)
    go_ret2
    exact ⟨none, 0, rfl, Own.none_, B1.out⟩
  rw [show appOf l s = (zipS l s, 0) from by simp [appOf, h1, h2, h3]]
  dsimp only
  rw [h2, ZL.out]
  clear h2
  go_enter Try.func39, Try.ntmps39
  go_wp2_with fail
  refine (l05Ok_any (some ad) c l _ hn HO.out HR.out).mono ?_
  rintro e w1 ⟨rfl, b⟩
  have B1 := hide b
  have R1 := hide ((HR.out.below b).more b.size)
  have S1 := hide ((HS.out.below b).more b.size)
  clear b
  go_wp2_with (go_at_call 89; refine (l05Shifts_n A2 c2 _ s _ _ H2.out (by omega) (by omega) hn2 S1.out).mono ?_; rintro e w' ⟨rfl, rfl⟩)
  go_loopw [6, 7] (fun v i wr => ∃ k : Nat, k ≤ l.length ∧ i = .int .i64 k ∧ Below w1.heap.size w1 wr ∧ ∃ A' c', v = .slice A' k c' ∧ Own wr w1.heap.size 77 2 A' k c' (((zipS l s).take k).flatMap ObsT.cells)) (fun _ i _ => l.length - (intOf i).toNat)
  case atStart => exact ⟨0, by omega, rfl, (Below.refl _ _).alloc (Nat.le_refl _) _, _, _, rfl, Own.empty_ _ _ _ (Nat.le_refl _)⟩
  case round =>
    obtain ⟨k, hk, rfl, hb, A', c', rfl, hown⟩ := hrel
    have HB := hide hb
    have HV := hide hown
    clear hown
    by_cases hlt : k < l.length
    · have hlz : k < (zipS l s).length := by rw [ZL.out]; exact hlt
      have hls : k < s.length := by rw [H2.out]; exact hlt
      have i1 : (0 : Int) ≤ (k : Int) := by omega
      have i2 : (k : Int) < (l.length : Int) := by omega
      obtain ⟨g, off, he, hg, hc⟩ := R1.out.elem ObsT.cells_len hlt
      injection he with he
      subst he
      obtain ⟨g', off', rfl, hg', hc'⟩ := S1.out.int hls
      have f0 : wr.cell? ⟨g, off + k * 2, none⟩ = some (.string l[k].name) := (hb.cell (p := ⟨g, off + k * 2, none⟩) hg).trans (hc 0 _ rfl)
      have f1 : wr.cell? ⟨g', off' + k, none⟩ = some (.int .i64 s[k]) := (hb.cell (p := ⟨g', off' + k, none⟩) hg').trans hc'
      have HT := hide (take_more hlz)
      have HZ := hide (zipS_at hlz hlt hls)
      clear hc hc' hb
      have ag : (Value.slice A' k c').ownBlock ≠ some g := fun e => by have := (HV.out.lt e).1; omega
      have ag' : (Value.slice A' k c').ownBlock ≠ some g' := fun e => by have := (HV.out.lt e).1; omega
      have lg : g < wr.heap.size := by have := HB.out.size; omega
      have lg' : g' < wr.heap.size := by have := HB.out.size; omega
      have lb : w1.heap.size ≤ wr.heap.size := HB.out.size
      have hown : wr.ownsRow w1.heap.size 77 2 (.slice A' k c') k (((zipS l s).take k).flatMap ObsT.cells) := HV.out
      go_wp2_with fail
      go_region_held3 (fun w' => w'.cell? ⟨g, off + k * 2, none⟩ = some (.string l[k].name) ∧ w'.cell? ⟨g', off' + k, none⟩ = some (.int .i64 s[k]))
        (first
          | go_keep
          | (go_split_ands
             refine ⟨?_, ?_⟩
             · (rw [hgrow.cell_far _ (by simp; omega) (Ne.symm ag)]; assumption)
             · (rw [hgrow.cell_far _ (by simp; omega) (Ne.symm ag')]; assumption)))
        ((refine step_append_lies _ (by rfl) _ _ _ (by rfl) w1.heap.size 77 i0 _ 2 24 Try.underlying26 hi hz0 hz1 hz2 rfl (by omega) (.slice A' k c') k (((zipS l s).take k).flatMap ObsT.cells) (by rfl) ((hown.alloc _).drew)
            ⟨wr.heap.size, 0, none⟩ 1 1 [.string l[k].name, .int .i64 s[k]] (by rfl) (by rfl) (World.news_of_block (cs := #[.string l[k].name, .int .i64 s[k]]) (t := 77) (fr := (0, 0)) (heap_alloc_new wr _)) (by simp [Value.oneCell'])
            (by omega) (by unfold maxLen; omega) (by omega) (by simp; omega) (wr.heap.size + 1) (by simp) ?_; intro gg cap w5 hown1 hgrow hat hlt9))
      skip
      obtain ⟨A3, c3, he3, hown2⟩ := Own.more (zs := ((zipS l s).take (k + 1)).flatMap ObsT.cells) hown1 rfl (by rw [HT.out, HZ.out, List.flatMap_append]; rfl)
      have HX := hide (And.intro hown2 hgrow)
      have HE3 := hide he3
      clear hown1 hgrow hown2 hat hlt9 he3 hown ag ag' lg lg'
      go_wp2
      go_roundw
      case rel =>
        obtain ⟨h1, h2⟩ := HX.out
        exact ⟨k + 1, by omega, by go_num, ((HB.out.alloc HB.out.size _).drew).grown h2 (by have := HB.out.size; simp; omega) (fun j hj => (HV.out.lt hj).1), A3, c3, HE3.out, h1⟩
      case measure => simp [intOf]; omega
    · obtain rfl : k = l.length := by omega
      have HT := hide (show (zipS l s).take l.length = zipS l s from by rw [← ZL.out]; exact List.take_length)
      clear hb
      go_wp2
      go_ret2
      exact ⟨A', c', rfl, by have := HV.out.base B1.out.size; rw [HT.out] at this; exact this, B1.out.trans (HB.out.mono B1.out.size)⟩
set_option maxHeartbeats 2000000 in
set_option maxRecDepth 100000 in
theorem impl_ApplyShifts_any (ad : Addr) (c : Nat) (l : List ObsT) (A2 : Option Addr) (c2 : Nat) (s : List Int) (w : World) (hn : l.length ≤ 1048576) (hn2 : s.length ≤ 1048576) (hok : ∀ x ∈ l, x.ok) (hr : Rd w w.heap.size 2 (some ad) l.length (l.flatMap ObsT.cells)) (hr2 : Rd w w.heap.size 1 A2 s.length (ints s)) :
    Calls Try.prog 41 #[.slice (some ad) l.length c, .slice A2 s.length c2] w fun e w' => ∃ A' c', e = .returned (.tuple #[.slice A' (appOf l s).1.length c', .int .i64 (appOf l s).2]) ∧ Own w' w.heap.size 77 2 A' (appOf l s).1.length c' ((appOf l s).1.flatMap ObsT.cells) ∧ Below w.heap.size w w' := by
  obtain ⟨i0, hi, hz0, hz1, hz2⟩ := info_parts info_Observer
  have HR := hide hr
  have HS := hide hr2
  have HO := hide hok
  clear hr hr2 hok
  cases h1 : validB obsOk obsLt 40 l
  · rw [show appOf l s = ([], 1) from by simp [appOf, h1]]
    go_enter Try.func41, Try.ntmps41
    go_wp2_with fail
    refine (impl_ValidObservers_any (some ad) c l _ hn HO.out HR.out).mono ?_
    rintro e w1 ⟨rfl, b⟩
    have B1 := hide b
    have R1 := hide ((HR.out.below b).more b.size)
    have S1 := hide ((HS.out.below b).more b.size)
    clear b
    go_wp2
    go_ret2
    exact ⟨none, 0, rfl, Own.none_, B1.out⟩
  by_cases h2 : s.length = l.length
  rotate_left
  · rw [show appOf l s = ([], 2) from by simp [appOf, h1, h2]]
    have h3 : (s.length == l.length) = false := by simp [h2]
    go_enter Try.func41, Try.ntmps41
    go_wp2_with fail
    refine (impl_ValidObservers_any (some ad) c l _ hn HO.out HR.out).mono ?_
    rintro e w1 ⟨rfl, b⟩
    have B1 := hide b
    have R1 := hide ((HR.out.below b).more b.size)
    have S1 := hide ((HS.out.below b).more b.size)
    clear b
    go_wp2_with fail
    go_ret2
    exact ⟨none, 0, rfl, Own.none_, B1.out⟩
  have ZL := hide (zipS_len h2)
  have H2 := hide h2
  cases h3 : allI (-2000) 2000 s
  · rw [show appOf l s = ([], 2) from by simp [appOf, h1, h2, h3]]
    rw [h2]
    clear h2
    go_enter Try.func41, Try.ntmps41
    go_wp2_with fail
    refine (impl_ValidObservers_any (some ad) c l _ hn HO.out HR.out).mono ?_
    rintro e w1 ⟨rfl, b⟩
    have B1 := hide b
    have R1 := hide ((HR.out.below b).more b.size)
    have S1 := hide ((HS.out.below b).more b.size)
    clear b
    go_wp2_with (go_at_call 90; refine (allIn_n A2 c2 _ s _ _ _ H2.out hn2 S1.out).mono ?_; rintro e w2 ⟨rfl, b2_⟩)
    go_ret2
    exact ⟨none, 0, rfl, Own.none_, B1.out.trans (b2_.mono B1.out.size)⟩
  rw [show appOf l s = (zipS l s, 0) from by simp [appOf, h1, h2, h3]]
  dsimp only
  rw [h2, ZL.out]
  clear h2
  go_enter Try.func41, Try.ntmps41
  go_wp2_with fail
  refine (impl_ValidObservers_any (some ad) c l _ hn HO.out HR.out).mono ?_
  rintro e w1 ⟨rfl, b⟩
  have B1 := hide b
  have R1 := hide ((HR.out.below b).more b.size)
  have S1 := hide ((HS.out.below b).more b.size)
  clear b
  go_wp2_with fail
  refine (allIn_n A2 c2 _ s _ _ _ H2.out hn2 S1.out).mono ?_
  rintro e w2 ⟨rfl, b⟩
  have B2 := hide (B1.out.trans (b.mono B1.out.size))
  have R2 := hide ((R1.out.below b).more b.size)
  have S2 := hide ((S1.out.below b).more b.size)
  clear b
  go_wp2_with fail
  refine (copyOfObserver_any ad c l _ hn R2.out).mono ?_
  rintro e w3 ⟨A', c', rfl, v, b⟩
  have B3 := hide (B2.out.trans (b.mono B2.out.size))
  have L2 := hide B2.out.size
  have Hb3 := hide b
  clear b
  obtain ⟨p1, p2, p3, ⟨rfl, p4, rfl⟩ | ⟨g, cur, rfl, hlo, hB, hs, ht⟩⟩ := v.parts
  · have hx : l = [] := List.eq_nil_of_length_eq_zero p4
    have hy : zipS l s = [] := by rw [hx]; rfl
    have HXE := hide (And.intro hx hy)
    have HP4 := hide p4
    clear p1 p2 p3 hx hy v p4
    go_wp2_with fail
    go_loopw [7, 8, 28] (fun a b i wr => i = .int .i64 0 ∧ wr = w3) (fun _ _ _ _ => 0)
    case atStart => exact ⟨rfl, rfl⟩
    case round =>
      obtain ⟨rfl, rfl⟩ := hrel
      have hnl : ¬ (0 : Int) < (l.length : Int) := by have := HP4.out; omega
      go_wp2
      go_ret2
      have h4 := HP4.out
      exact ⟨none, 0, rfl, by rw [HXE.out.2, h4]; exact Own.none_, B3.out⟩
  have HP := hide (And.intro p2 (And.intro p3 (And.intro hlo hs)))
  have Hcell : ∀ t, t < l.length * 2 → cur[t]? = (l.flatMap ObsT.cells)[t]? := by
    intro t h
    rw [← ht, List.getElem?_take_of_lt h, Array.getElem?_toList]
  have HC0 := hide Hcell
  have HBk := hide hB
  clear p1 p2 p3 hlo hs ht v Hcell hB
  go_wp2_with fail
  go_loopw [7, 8, 28] (fun a b i wr => ∃ k : Nat, k ≤ l.length ∧ i = .int .i64 k ∧ w3.grownBy wr (some g) ∧ ∃ cs : Array Value, Bk wr g 77 cs ∧ cs.size = cur.size ∧ ∀ t, t < l.length * 2 → cs[t]? = (((zipS l s).take k ++ l.drop k).flatMap ObsT.cells)[t]?) (fun _ _ i _ => l.length - (intOf i).toNat)
  case atStart => exact ⟨0, by omega, rfl, ⟨rfl, rfl, rfl, Nat.le_refl _, fun _ _ _ => rfl⟩, cur, HBk.out, rfl, HC0.out⟩
  case round =>
    obtain ⟨k, hk, rfl, hgr, cs, hB, hcs, hcell⟩ := hrel
    have HC := hide (And.intro hB (And.intro hcs hcell))
    have HG := hide hgr
    by_cases hlt : k < l.length
    · have hls : k < s.length := by rw [H2.out]; exact hlt
      have hcc : l.length * 2 ≤ cs.size := by rw [hcs, HP.out.2.2.2]; exact Nat.mul_le_mul_right _ HP.out.1
      obtain ⟨o1, e1⟩ := hB.some_ (i := k * 2 + 1) (by omega)
      have q1 := hB.frozen (k * 2 + 1)
      have i1 : (0 : Int) ≤ (k : Int) := by omega
      have i2 : (k : Int) < (l.length : Int) := by omega
      obtain ⟨g', off', rfl, hg', hc'⟩ := S2.out.int hls
      have hne : g' ≠ g := by have h1 := HP.out.2.2.1; omega
      have f1 : wr.cell? ⟨g', off' + k, none⟩ = some (.int .i64 s[k]) := hgr.cell ((Hb3.out.cell (p := ⟨g', off' + k, none⟩) hg').trans hc') (by simpa using hne)
      clear hB hcs hcell hgr hc' hcc
      go_wp2
      go_roundw
      case rel =>
        obtain ⟨hB, hcs, hcell⟩ := HC.out
        exact ⟨k + 1, by omega, by go_num, grown_set HG.out _ _, _, hB.set_ _ _, by simpa using hcs, mix_step H2.out hlt hls (by rw [hcs, HP.out.2.2.2]; exact Nat.mul_le_mul_right _ HP.out.1) hcell⟩
      case measure => simp [intOf]; omega
    · obtain rfl : k = l.length := by omega
      clear hB hcs hcell hgr
      go_wp2
      go_ret2
      obtain ⟨hB, hcs, hcell⟩ := HC.out
      obtain ⟨p2, p3, hlo, hs⟩ := HP.out
      have e1 : (zipS l s).take l.length ++ l.drop l.length = zipS l s := by rw [List.drop_length, List.append_nil, ← ZL.out, List.take_length]
      rw [e1] at hcell
      refine ⟨_, c', rfl, Own.mk_ (by rw [flat_len ObsT.cells 2 ObsT.cells_len, ZL.out]) p2 p3 (Nat.le_trans L2.out hlo) hB (by rw [hcs, hs]) ?_, B3.out.grown HG.out B3.out.size (fun j hj => by cases hj; exact Nat.le_trans L2.out hlo)⟩
      have h7 := put_all' (f := ObsT.cells) ObsT.cells_len (l := zipS l s) (cs := cs) (by rw [ZL.out, hcs, hs]; exact Nat.mul_le_mul_right _ p2) (by rw [ZL.out]; exact hcell)
      rw [ZL.out] at h7
      exact h7
theorem spec_ApplyShifts_val {l : List ObsT} {s : List Int} {res : List ObsT} {code : Int} (hF : (res, code) = appOf l s) (ad : Addr) (c : Nat) (A2 : Option Addr) (c2 : Nat) (w : World) (hn : l.length ≤ 1048576) (hn2 : s.length ≤ 1048576) (hok : ∀ x ∈ l, x.ok) (hr : Rd w w.heap.size 2 (some ad) l.length (l.flatMap ObsT.cells)) (hr2 : Rd w w.heap.size 1 A2 s.length (ints s)) :
    Calls Try.prog 39 #[.slice (some ad) l.length c, .slice A2 s.length c2] w fun e w' => ∃ A' c', e = .returned (.tuple #[.slice A' res.length c', .int .i64 code]) ∧ Own w' w.heap.size 77 2 A' res.length c' (res.flatMap ObsT.cells) ∧ Below w.heap.size w w' := by
  have h := spec_ApplyShifts_any ad c l A2 c2 s w hn hn2 hok hr hr2
  rw [← hF] at h
  exact h
theorem impl_ApplyShifts_val {l : List ObsT} {s : List Int} {res : List ObsT} {code : Int} (hF : (res, code) = appOf l s) (ad : Addr) (c : Nat) (A2 : Option Addr) (c2 : Nat) (w : World) (hn : l.length ≤ 1048576) (hn2 : s.length ≤ 1048576) (hok : ∀ x ∈ l, x.ok) (hr : Rd w w.heap.size 2 (some ad) l.length (l.flatMap ObsT.cells)) (hr2 : Rd w w.heap.size 1 A2 s.length (ints s)) :
    Calls Try.prog 41 #[.slice (some ad) l.length c, .slice A2 s.length c2] w fun e w' => ∃ A' c', e = .returned (.tuple #[.slice A' res.length c', .int .i64 code]) ∧ Own w' w.heap.size 77 2 A' res.length c' (res.flatMap ObsT.cells) ∧ Below w.heap.size w w' := by
  have h := impl_ApplyShifts_any ad c l A2 c2 s w hn hn2 hok hr hr2
  rw [← hF] at h
  exact h
theorem apply_end : True := trivial
end Go.Proofs.Ytldgelkgobocdaa
