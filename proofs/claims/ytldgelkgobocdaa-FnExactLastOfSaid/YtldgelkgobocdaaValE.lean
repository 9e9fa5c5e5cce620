/-
  Contracts of the tests on lists of estimates.
-/
import Derived.Test.YtldgelkgobocdaaOk
import Derived.Test.YtldgelkgobocdaaPlB
import Derived.Test.YtldgelkgobocdaaKp
import Derived.Deep.RegionHeld3
import Derived.Deep.RegionWith
import Derived.Deep.QuietTactic
import Derived.BigQuiet
import Derived.WalkLawsBesides
import Derived.Outline
import Derived.Lib.Bytealg
namespace Go.Proofs.Ytldgelkgobocdaa
open Go.RowKit Pl
set_option linter.unusedVariables false
set_option linter.unusedSimpArgs false
theorem qadd_ex {P : Program} {f : FuncId} {args : Array Value} {w : World} {b n : Nat} {v : Value} (h : Calls P f args (w.drewN (b + n)) fun e w' => e = .returned v ∧ ∃ m, w' = (w.drewN (b + n)).drewN m) : Calls P f args (w.drewN (b + n)) fun e w' => e = .returned v ∧ ∃ m, w' = w.drewN (b + m) :=
  h.mono fun _ _ ⟨he, m, hm⟩ => ⟨he, n + m, by rw [hm, World.drewN_drewN, Nat.add_assoc]⟩
def cmpI (a b : Int) : Int := if a < b then -1 else if b < a then 1 else 0
def cmpS (a b : ByteArray) : Int := Lib.compareBytes a.data.toList b.data.toList
def or3 (a b c : Int) : Int := if a ≠ 0 then a else if b ≠ 0 then b else c
theorem cmpBytes : ∀ x y : List UInt8, (Lib.compareBytes x y = 0 ∧ x = y ∧ Op.bytesLess x y = false) ∨ (Lib.compareBytes x y = -1 ∧ x ≠ y ∧ Op.bytesLess x y = true) ∨ (Lib.compareBytes x y = 1 ∧ x ≠ y ∧ Op.bytesLess x y = false)
  | [], [] => by simp [Lib.compareBytes, Op.bytesLess]
  | [], _ :: _ => by simp [Lib.compareBytes, Op.bytesLess]
  | _ :: _, [] => by simp [Lib.compareBytes, Op.bytesLess]
  | a :: x, b :: y => by
    unfold Lib.compareBytes Op.bytesLess
    rcases Nat.lt_trichotomy a.toNat b.toNat with h | h | h
    · have h1 : a < b := UInt8.lt_iff_toNat_lt.2 h
      have h2 : a ≠ b := fun e => by subst e; omega
      rw [if_pos h1]
      exact .inr (.inl ⟨rfl, by simp [h2], by simp [h1]⟩)
    · have h1 : a = b := UInt8.toNat_inj.1 h
      subst h1
      have h2 : ¬ a < a := fun e => by have := UInt8.lt_iff_toNat_lt.1 e; omega
      rw [if_neg h2, if_neg h2]
      have ih := cmpBytes x y
      simpa [h2] using ih
    · have h1 : b < a := UInt8.lt_iff_toNat_lt.2 h
      have h2 : a ≠ b := fun e => by subst e; omega
      have h3 : ¬ a < b := fun e => by have := UInt8.lt_iff_toNat_lt.1 e; omega
      rw [if_neg h3, if_pos h1]
      exact .inr (.inr ⟨rfl, by simp [h2], by simp [h2, h3]⟩)
def cmpEst (x y : EstT) : Int := or3 (cmpI x.time y.time) (cmpS x.star y.star) (cmpS x.obs y.obs)
def estLt (x y : EstT) : Bool := if x.time = y.time then (if x.star.toList == y.star.toList then Op.bytesLess x.obs.toList y.obs.toList else Op.bytesLess x.star.toList y.star.toList) else decide (x.time < y.time)
theorem cmp_lt {x y : EstT} (h : estLt x y = true) : cmpEst x y < 0 := by
  unfold estLt at h
  unfold cmpEst or3 cmpI cmpS
  simp only [ByteArray.toList_eq] at h
  rcases cmpBytes x.star.data.toList y.star.data.toList with ⟨e, e1, e2⟩ | ⟨e, e1, e2⟩ | ⟨e, e1, e2⟩ <;> rcases cmpBytes x.obs.data.toList y.obs.data.toList with ⟨f, f1, f2⟩ | ⟨f, f1, f2⟩ | ⟨f, f1, f2⟩ <;> rcases Int.lt_trichotomy x.time y.time with t | t | t
  all_goals
    have t1 : ¬ y.time < x.time ∨ ¬ x.time < y.time := by omega
    rw [e, f]
    split at h <;> (try split at h) <;> (try split) <;> (try split) <;> simp_all <;> omega
theorem cmp_ge {x y : EstT} (h : estLt x y = false) : 0 ≤ cmpEst x y := by
  unfold estLt at h
  unfold cmpEst or3 cmpI cmpS
  simp only [ByteArray.toList_eq] at h
  rcases cmpBytes x.star.data.toList y.star.data.toList with ⟨e, e1, e2⟩ | ⟨e, e1, e2⟩ | ⟨e, e1, e2⟩ <;> rcases cmpBytes x.obs.data.toList y.obs.data.toList with ⟨f, f1, f2⟩ | ⟨f, f1, f2⟩ | ⟨f, f1, f2⟩ <;> rcases Int.lt_trichotomy x.time y.time with t | t | t
  all_goals
    rw [e, f]
    split at h <;> (try split at h) <;> (try split) <;> (try split) <;> simp_all <;> omega
theorem cmp_Compare_any (a b : Int) (w : World) : Calls Try.prog 140 #[.int .i64 a, .int .i64 b] w fun e w' => e = .returned (.int .i64 (cmpI a b)) ∧ w = w' := by
  rcases Int.lt_trichotomy a b with h | h | h
  all_goals
    have h1 : ¬ b < a ∨ ¬ a < b := by omega
    go_enter Try.func140, Try.ntmps140
    go_wp2
    all_goals go_ret
    all_goals exact ⟨ret_int (by unfold cmpI; repeat' split <;> omega), rfl⟩
set_option maxRecDepth 100000 in
theorem CompareString_any (a b : ByteArray) (w : World) : Calls Try.prog 149 #[.string a, .string b] w fun e w' => e = .returned (.int .i64 (cmpS a b)) ∧ w = w' := by
  go_enter Try.func149, Try.ntmps149
  go_wp2
  rw [run_callFunc_extern Try.func154 (by kernel_rfl) (by kernel_rfl) (by kernel_rfl) (e := Extern.BytealgCompare.compare) (by kernel_rfl), Lib.run_compareString]
  simp only [Result.andThen]
  rw [Oper.upon_value]
  go_wp2
  go_ret
  exact ⟨rfl, rfl⟩
theorem strings_Compare_any (a b : ByteArray) (w : World) : Calls Try.prog 141 #[.string a, .string b] w fun e w' => e = .returned (.int .i64 (cmpS a b)) ∧ w = w' := by
  go_enter Try.func141, Try.ntmps141
  go_wp2_with (go_at_call 149; refine (CompareString_any _ _ _).mono ?_; rintro e w' ⟨rfl, rfl⟩)
  go_ret
  exact ⟨rfl, rfl⟩
theorem cmp_Or_any (a b c : Int) (g : Nat) (w : World) (k0 : w.cell? ⟨g, 0, none⟩ = some (.int .i64 a)) (k1 : w.cell? ⟨g, 1, none⟩ = some (.int .i64 b)) (k2 : w.cell? ⟨g, 2, none⟩ = some (.int .i64 c)) : Calls Try.prog 139 #[.slice (some ⟨g, 0, none⟩) 3 3] w fun e w' => e = .returned (.int .i64 (or3 a b c)) ∧ w = w' := by
  go_enter Try.func139, Try.ntmps139
  go_wp2
  go_loop [8] (fun i => i = .int .i64 0 ∨ (i = .int .i64 1 ∧ Hid (a = 0)) ∨ (i = .int .i64 2 ∧ Hid (a = 0 ∧ b = 0)) ∨ (i = .int .i64 3 ∧ Hid (a = 0 ∧ b = 0 ∧ c = 0))) (fun i => 3 - (intOf i).toNat)
  case atStart => exact .inl rfl
  case round =>
    rcases hrel with rfl | ⟨rfl, hs⟩ | ⟨rfl, hs⟩ | ⟨rfl, hs⟩
    · by_cases h1 : a = 0
      · have e1 : (a == 0) = true := by simpa using h1
        have H1 := hide h1
        clear h1
        go_wp2
        go_round
        case rel => exact .inr (.inl ⟨rfl, H1⟩)
        case measure => simp [intOf]
      · have e1 : (a == 0) = false := by simpa using h1
        have H1 := hide h1
        clear h1
        go_wp2
        go_ret
        exact ⟨ret_int (by rw [or3, if_pos H1.out]), rfl⟩
    · by_cases h1 : b = 0
      · have e1 : (b == 0) = true := by simpa using h1
        have H1 := hide h1
        clear h1
        go_wp2
        go_round
        case rel => exact .inr (.inr (.inl ⟨rfl, hs.out, H1.out⟩))
        case measure => simp [intOf]
      · have e1 : (b == 0) = false := by simpa using h1
        have H1 := hide h1
        clear h1
        go_wp2
        go_ret
        exact ⟨ret_int (by rw [or3, if_neg (by simp [hs.out]), if_pos H1.out]), rfl⟩
    · by_cases h1 : c = 0
      · have e1 : (c == 0) = true := by simpa using h1
        have H1 := hide h1
        clear h1
        go_wp2
        go_round
        case rel => exact .inr (.inr (.inr ⟨rfl, hs.out.1, hs.out.2, H1.out⟩))
        case measure => simp [intOf]
      · have e1 : (c == 0) = false := by simpa using h1
        have H1 := hide h1
        clear h1
        go_wp2
        go_ret
        exact ⟨ret_int (by rw [or3, if_neg (by simp [hs.out.1]), if_neg (by simp [hs.out.2])]), rfl⟩
    · go_wp2
      go_ret
      exact ⟨ret_int (by rw [or3, if_neg (by simp [hs.out.1]), if_neg (by simp [hs.out.2.1]), hs.out.2.2]), rfl⟩
set_option maxHeartbeats 1000000 in
theorem compareEstimates_any (x y : EstT) (w : World) : Calls Try.prog 124 #[.agg #[.int .i64 x.time, .string x.star, .string x.obs, .int .i64 x.mag, .bool x.fain], .agg #[.int .i64 y.time, .string y.star, .string y.obs, .int .i64 y.mag, .bool y.fain]] w fun e w' => e = .returned (.int .i64 (cmpEst x y)) ∧ Below w.heap.size w w' := by
  go_enter Try.func124, Try.ntmps124
  go_wp2_with fail
  go_region_held3 (fun w' => w'.cell? ⟨w.heap.size, 0, none⟩ = some (.int .i64 x.time) ∧ w'.cell? ⟨w.heap.size, 1, none⟩ = some (.string x.star) ∧ w'.cell? ⟨w.heap.size, 2, none⟩ = some (.string x.obs) ∧ w'.cell? ⟨w.heap.size + 1, 0, none⟩ = some (.int .i64 y.time) ∧ w'.cell? ⟨w.heap.size + 1, 1, none⟩ = some (.string y.star) ∧ w'.cell? ⟨w.heap.size + 1, 2, none⟩ = some (.string y.obs)) (go_keep) (first | (go_at_call 140; refine (cmp_Compare_any _ _ _).mono ?_; rintro e w' ⟨rfl, rfl⟩) | (go_at_call 141; refine (strings_Compare_any _ _ _).mono ?_; rintro e w' ⟨rfl, rfl⟩) | (go_at_call 139; refine (cmp_Or_any (cmpI x.time y.time) (cmpS x.star y.star) (cmpS x.obs y.obs) _ _ (by simp [go_sem]) (by simp [go_sem]) (by simp [go_sem])).mono ?_; rintro e w' ⟨rfl, rfl⟩))
  go_wp2
  go_ret
  exact ⟨rfl, (by repeat (first | exact Below.refl _ _ | assumption | refine Below.drew ?_ | refine below_drewN ?_ _ | refine Below.alloc ?_ (by first | omega | (simp; done) | (simp; omega)) _ | refine Below.setCell ?_ (by first | omega | (simp; done) | (simp; omega)) _ | refine Below.trans ?_ (Below.mono (by assumption) (by first | omega | (simp; done) | (simp; omega)))))⟩
set_option maxHeartbeats 1000000 in
theorem l06Before_any (x y : EstT) (g o1 o2 : Nat) (w : World) (k0 : w.cell? ⟨g, o1, none⟩ = some (.int .i64 x.time)) (k1 : w.cell? ⟨g, o1 + 1, none⟩ = some (.string x.star)) (k2 : w.cell? ⟨g, o1 + 2, none⟩ = some (.string x.obs)) (m0 : w.cell? ⟨g, o2, none⟩ = some (.int .i64 y.time)) (m1 : w.cell? ⟨g, o2 + 1, none⟩ = some (.string y.star)) (m2 : w.cell? ⟨g, o2 + 2, none⟩ = some (.string y.obs)) : Calls Try.prog 120 #[.pointer (some ⟨g, o1, none⟩), .pointer (some ⟨g, o2, none⟩)] w fun e w' => e = .returned (.bool (estLt x y)) ∧ ∃ m, w' = w.drewN m := by
  by_cases h1 : x.time = y.time
  case neg =>
    have e1 : (x.time == y.time) = false := by simpa using h1
    have P1 := hide (show estLt x y = decide (x.time < y.time) from if_neg h1)
    clear h1
    go_enter Try.func120, Try.ntmps120
    go_wp2_with fail
    go_quiet (fail)
    go_wp2_with fail
    go_quiet (fail)
    go_wp2
    go_ret
    exact ⟨ret_bool P1.out.symm, _, by first | (rw [World.drewN_drewN, World.drewN_drewN]; done) | (rw [World.drewN_drewN]; done)⟩
  have e1 : (x.time == y.time) = true := by simpa using h1
  cases e2 : x.star.toList == y.star.toList
  · have P1 := hide (show estLt x y = Op.bytesLess x.star.toList y.star.toList from (if_pos h1).trans (if_neg (by rw [e2]; simp)))
    have E2 := hide e2
    clear h1
    go_enter Try.func120, Try.ntmps120
    go_wp2_with fail
    go_quiet (fail)
    go_wp2_with fail
    go_quiet (fail)
    go_wp2_with fail
    go_quiet (fail)
    go_wp2
    go_ret
    exact ⟨ret_bool P1.out.symm, _, by first | (rw [World.drewN_drewN, World.drewN_drewN]; done) | (rw [World.drewN_drewN]; done)⟩
  · have P1 := hide (show estLt x y = Op.bytesLess x.obs.toList y.obs.toList from (if_pos h1).trans (if_pos e2))
    clear h1
    go_enter Try.func120, Try.ntmps120
    go_wp2_with fail
    go_quiet (fail)
    go_wp2_with fail
    go_quiet (fail)
    go_wp2_with fail
    go_quiet (fail)
    go_wp2
    go_ret
    exact ⟨ret_bool P1.out.symm, _, by first | (rw [World.drewN_drewN, World.drewN_drewN]; done) | (rw [World.drewN_drewN]; done)⟩
theorem l06Before_bit {x y : EstT} {b : Bool} (h : estLt x y = b) (w : World) (g o1 o2 : Nat) (k0 : w.cell? ⟨g, o1, none⟩ = some (.int .i64 x.time)) (k1 : w.cell? ⟨g, o1 + 1, none⟩ = some (.string x.star)) (k2 : w.cell? ⟨g, o1 + 2, none⟩ = some (.string x.obs)) (m0 : w.cell? ⟨g, o2, none⟩ = some (.int .i64 y.time)) (m1 : w.cell? ⟨g, o2 + 1, none⟩ = some (.string y.star)) (m2 : w.cell? ⟨g, o2 + 2, none⟩ = some (.string y.obs)) (N : Nat) : Calls Try.prog 120 #[.pointer (some ⟨g, o1, none⟩), .pointer (some ⟨g, o2, none⟩)] (w.drewN N) fun e w' => e = .returned (.bool b) ∧ ∃ m, w' = (w.drewN N).drewN m :=
  h ▸ l06Before_any x y g o1 o2 (w.drewN N) k0 k1 k2 m0 m1 m2
theorem est_at {l : List EstT} {k : Nat} (h : k < l.length) {b : Bool} (hb : estB l[k].time l[k].star l[k].obs l[k].mag = b) : estOk (l[k]'h) = b := hb
theorem isEstimate_bit {time : Int} {star obs : ByteArray} {mag : Int} {fain : Bool} {b : Bool} (h : estB time star obs mag = b) (w : World) (gs : star.size ≤ maxLen) (go : obs.size ≤ maxLen) : Calls Try.prog 123 #[.agg #[.int .i64 time, .string star, .string obs, .int .i64 mag, .bool fain]] w fun e w' => e = .returned (.bool b) ∧ Below w.heap.size w w' := h ▸ impl_isEstimate_any time star obs mag fain w gs go
set_option maxHeartbeats 4000000 in
theorem impl_ValidEstimates_any (A : Option Addr) (c : Nat) (l : List EstT) (w : World) (hn : l.length ≤ 1048576) (hok : ∀ x ∈ l, x.ok) (hr : Rd w w.heap.size 5 A l.length (l.flatMap EstT.cells)) :
    Calls Try.prog 86 #[.slice A l.length c] w fun e w' => e = .returned (.bool (validB estOk estLt 100 l)) ∧ Below w.heap.size w w' := by
  have HO := hide hok
  clear hok
  by_cases hm : 100 < l.length
  · clear hr
    go_enter Try.func86, Try.ntmps86
    go_wp2
    go_ret
    exact ⟨ret_bool (valid_long hm).symm, (by repeat (first | exact Below.refl _ _ | assumption | refine Below.drew ?_ | refine below_drewN ?_ _ | refine Below.alloc ?_ (by first | omega | (simp; done) | (simp; omega)) _ | refine Below.setCell ?_ (by first | omega | (simp; done) | (simp; omega)) _ | refine Below.trans ?_ (Below.mono (by assumption) (by first | omega | (simp; done) | (simp; omega)))))⟩
  go_enter Try.func86, Try.ntmps86
  go_wp2_with fail
  go_loopw [10] (fun i wr => ∃ k : Nat, k ≤ l.length ∧ i = .int .i64 k ∧ Below w.heap.size w wr ∧ Hid (∀ j, j < k → stepOk estOk estLt l j = true)) (fun i _ => l.length - (intOf i).toNat)
  case atStart => exact ⟨0, by omega, rfl, (by repeat (first | exact Below.refl _ _ | assumption | refine Below.drew ?_ | refine below_drewN ?_ _ | refine Below.alloc ?_ (by first | omega | (simp; done) | (simp; omega)) _ | refine Below.setCell ?_ (by first | omega | (simp; done) | (simp; omega)) _ | refine Below.trans ?_ (Below.mono (by assumption) (by first | omega | (simp; done) | (simp; omega))))), fun j hj => absurd hj (by omega)⟩
  case round =>
    obtain ⟨k, hk, rfl, hb, hs⟩ := hrel
    have Hb := hide hb
    by_cases hlt : k < l.length
    · obtain ⟨g, off, rfl, hg, hc⟩ := hr.elem EstT.cells_len hlt
      have f0 : wr.cell? ⟨g, off + k * 5, none⟩ = some (.int .i64 l[k].time) := (hb.cell (p := ⟨g, off + k * 5, none⟩) hg).trans (hc 0 _ rfl)
      have f1 : wr.cell? ⟨g, off + k * 5 + 1, none⟩ = some (.string l[k].star) := (hb.cell (p := ⟨g, off + k * 5 + 1, none⟩) hg).trans (hc 1 _ rfl)
      have f2 : wr.cell? ⟨g, off + k * 5 + 2, none⟩ = some (.string l[k].obs) := (hb.cell (p := ⟨g, off + k * 5 + 2, none⟩) hg).trans (hc 2 _ rfl)
      have f3 : wr.cell? ⟨g, off + k * 5 + 3, none⟩ = some (.int .i64 l[k].mag) := (hb.cell (p := ⟨g, off + k * 5 + 3, none⟩) hg).trans (hc 3 _ rfl)
      have f4 : wr.cell? ⟨g, off + k * 5 + 4, none⟩ = some (.bool l[k].fain) := (hb.cell (p := ⟨g, off + k * 5 + 4, none⟩) hg).trans (hc 4 _ rfl)
      have hsz : l[k].star.size ≤ maxLen := (HO.out l[k] (List.getElem_mem _)).2.1
      have hsz2 : l[k].obs.size ≤ maxLen := (HO.out l[k] (List.getElem_mem _)).2.2.1
      have hgw : g < wr.heap.size := by have := hb.size; omega
      have hww : w.heap.size ≤ wr.heap.size := hb.size
      cases h0 : estB l[k].time l[k].star l[k].obs l[k].mag
      · clear hc hr hb
        have K0 : Kp w [(⟨wr.heap.size, 0, none⟩, .int .i64 l[k].time), (⟨wr.heap.size, 1, none⟩, .string l[k].star), (⟨wr.heap.size, 2, none⟩, .string l[k].obs), (⟨wr.heap.size, 3, none⟩, .int .i64 l[k].mag), (⟨wr.heap.size, 4, none⟩, .bool l[k].fain)] (wr.alloc (.cells #[.int .i64 l[k].time, .string l[k].star, .string l[k].obs, .int .i64 l[k].mag, .bool l[k].fain] 49)).drew := ⟨(Hb.out.trans ((Below.refl _ _).alloc (by omega) _)).drew, fun p hp => by
          simp only [List.mem_cons, List.not_mem_nil, or_false] at hp
          rcases hp with rfl | rfl | rfl | rfl | rfl <;> refine ⟨?_, ?_⟩ <;> first | (simp [go_sem]; done) | (simp [go_sem]; omega) | (exact (((Below.refl wr.heap.size wr).alloc (Nat.le_refl _) _).drew.cell hgw).trans (by assumption))⟩
        go_wp2_with fail
        refine wp_region_held_drew (S := (fun w' => w'.cell? ⟨wr.heap.size, 0, none⟩ = some (.int .i64 l[k].time) ∧ w'.cell? ⟨wr.heap.size, 1, none⟩ = some (.string l[k].star) ∧ w'.cell? ⟨wr.heap.size, 2, none⟩ = some (.string l[k].obs) ∧ w'.cell? ⟨wr.heap.size, 3, none⟩ = some (.int .i64 l[k].mag) ∧ w'.cell? ⟨wr.heap.size, 4, none⟩ = some (.bool l[k].fain))) (by kernel_rfl) ?_ (fun hHeld => ?_)
        · (try dsimp only); go_keep
        refine wpAnyH_take (i := 0) (v := ?_) rfl (by kernel_rfl) (by kernel_rfl) (by kernel_rfl) (fun _ _ _ h => h) (Or.inl ⟨by rfl, ?_⟩) (by assumption) ?_
        rotate_left
        · (intro w hSw; (try dsimp only at hSw); go_simp) <;> with_reducible rfl
        try simp only [Act.put, List.getElem_toArray, List.getElem_cons_succ, List.getElem_cons_zero, List.setIfInBounds_toArray, List.set_cons_zero, List.set_cons_succ]
        refine wpAnyH_ready (rs := [1]) (by kernel_rfl) (by simp) ?_
        refine AllReadyH.cons rfl (fun K hK => ?_) AllReadyH.nil
        go_simp
        (go_at_call 123; refine (isEstimate_bit h0 _ (by assumption) (by assumption)).mono ?_; rintro e w1 ⟨rfl, hb1⟩; have Kn := Kp.below (by assumption) hb1; have dd0 := Kn.at0; have dd1 := Kn.at1; have dd2 := Kn.at2; have dd3 := Kn.at3; have dd4 := Kn.at4)
        try go_wp2_with fail
        refine hK.out _ _ ?_ (fun hHeld => ?_)
        · (try dsimp only); go_keep
        clear hK K
        try simp only [Act.put, List.getElem_toArray, List.getElem_cons_succ, List.getElem_cons_zero, List.setIfInBounds_toArray, List.set_cons_zero, List.set_cons_succ]
        refine wpAnyH_take (i := 2) (v := ?_) rfl (by kernel_rfl) (by kernel_rfl) (by kernel_rfl) (fun _ _ _ h => h) (Or.inl ⟨by rfl, ?_⟩) (by assumption) ?_
        rotate_left
        · (intro w hSw; (try dsimp only at hSw); go_simp) <;> with_reducible rfl
        try simp only [Act.put, List.getElem_toArray, List.getElem_cons_succ, List.getElem_cons_zero, List.setIfInBounds_toArray, List.set_cons_zero, List.set_cons_succ]
        refine wpAnyH_take (i := 3) (v := ?_) rfl (by kernel_rfl) (by kernel_rfl) (by kernel_rfl) (fun _ _ _ h => h) (Or.inl ⟨by rfl, ?_⟩) (by assumption) ?_
        rotate_left
        · (intro w hSw; (try dsimp only at hSw); go_simp) <;> with_reducible rfl
        try simp only [Act.put, List.getElem_toArray, List.getElem_cons_succ, List.getElem_cons_zero, List.setIfInBounds_toArray, List.set_cons_zero, List.set_cons_succ]
        refine wpAnyH_take (i := 4) (v := undef) rfl (by kernel_rfl) (by kernel_rfl) (by kernel_rfl) (fun _ _ _ h => h) (Or.inr ⟨by rfl, rfl⟩) (by assumption) ?_
        try simp only [Act.put, List.getElem_toArray, List.getElem_cons_succ, List.getElem_cons_zero, List.setIfInBounds_toArray, List.set_cons_zero, List.set_cons_succ]
        refine wpAnyH_take (i := 5) (v := undef) rfl (by kernel_rfl) (by kernel_rfl) (by kernel_rfl) (fun _ _ _ h => h) (Or.inr ⟨by rfl, rfl⟩) (by assumption) ?_
        try simp only [Act.put, List.getElem_toArray, List.getElem_cons_succ, List.getElem_cons_zero, List.setIfInBounds_toArray, List.set_cons_zero, List.set_cons_succ]
        refine wpAnyH_take (i := 6) (v := undef) rfl (by kernel_rfl) (by kernel_rfl) (by kernel_rfl) (fun _ _ _ h => h) (Or.inr ⟨by rfl, rfl⟩) (by assumption) ?_
        try simp only [Act.put, List.getElem_toArray, List.getElem_cons_succ, List.getElem_cons_zero, List.setIfInBounds_toArray, List.set_cons_zero, List.set_cons_succ]
        refine wpAnyH_take (i := 7) (v := undef) rfl (by kernel_rfl) (by kernel_rfl) (by kernel_rfl) (fun _ _ _ h => h) (Or.inr ⟨by rfl, rfl⟩) (by assumption) ?_
        try simp only [Act.put, List.getElem_toArray, List.getElem_cons_succ, List.getElem_cons_zero, List.setIfInBounds_toArray, List.set_cons_zero, List.set_cons_succ]
        refine wpAnyH_take (i := 8) (v := undef) rfl (by kernel_rfl) (by kernel_rfl) (by kernel_rfl) (fun _ _ _ h => h) (Or.inr ⟨by rfl, rfl⟩) (by assumption) ?_
        try simp only [Act.put, List.getElem_toArray, List.getElem_cons_succ, List.getElem_cons_zero, List.setIfInBounds_toArray, List.set_cons_zero, List.set_cons_succ]
        refine wpAnyH_take (i := 9) (v := undef) rfl (by kernel_rfl) (by kernel_rfl) (by kernel_rfl) (fun _ _ _ h => h) (Or.inr ⟨by rfl, rfl⟩) (by assumption) ?_
        try simp only [Act.put, List.getElem_toArray, List.getElem_cons_succ, List.getElem_cons_zero, List.setIfInBounds_toArray, List.set_cons_zero, List.set_cons_succ]
        refine wpAnyH_take (i := 10) (v := undef) rfl (by kernel_rfl) (by kernel_rfl) (by kernel_rfl) (fun _ _ _ h => h) (Or.inr ⟨by rfl, rfl⟩) (by assumption) ?_
        try simp only [Act.put, List.getElem_toArray, List.getElem_cons_succ, List.getElem_cons_zero, List.setIfInBounds_toArray, List.set_cons_zero, List.set_cons_succ]
        refine wpAnyH_take (i := 11) (v := undef) rfl (by kernel_rfl) (by kernel_rfl) (by kernel_rfl) (fun _ _ _ h => h) (Or.inr ⟨by rfl, rfl⟩) (by assumption) ?_
        try simp only [Act.put, List.getElem_toArray, List.getElem_cons_succ, List.getElem_cons_zero, List.setIfInBounds_toArray, List.set_cons_zero, List.set_cons_succ]
        refine wpAnyH_take (i := 12) (v := undef) rfl (by kernel_rfl) (by kernel_rfl) (by kernel_rfl) (fun _ _ _ h => h) (Or.inr ⟨by rfl, rfl⟩) (by assumption) ?_
        try simp only [Act.put, List.getElem_toArray, List.getElem_cons_succ, List.getElem_cons_zero, List.setIfInBounds_toArray, List.set_cons_zero, List.set_cons_succ]
        refine wpAnyH_take (i := 13) (v := undef) rfl (by kernel_rfl) (by kernel_rfl) (by kernel_rfl) (fun _ _ _ h => h) (Or.inr ⟨by rfl, rfl⟩) (by assumption) ?_
        try simp only [Act.put, List.getElem_toArray, List.getElem_cons_succ, List.getElem_cons_zero, List.setIfInBounds_toArray, List.set_cons_zero, List.set_cons_succ]
        refine wpAnyH_take (i := 14) (v := undef) rfl (by kernel_rfl) (by kernel_rfl) (by kernel_rfl) (fun _ _ _ h => h) (Or.inr ⟨by rfl, rfl⟩) (by assumption) ?_
        try simp only [Act.put, List.getElem_toArray, List.getElem_cons_succ, List.getElem_cons_zero, List.setIfInBounds_toArray, List.set_cons_zero, List.set_cons_succ]
        refine wpAnyH_take (i := 15) (v := undef) rfl (by kernel_rfl) (by kernel_rfl) (by kernel_rfl) (fun _ _ _ h => h) (Or.inr ⟨by rfl, rfl⟩) (by assumption) ?_
        try simp only [Act.put, List.getElem_toArray, List.getElem_cons_succ, List.getElem_cons_zero, List.setIfInBounds_toArray, List.set_cons_zero, List.set_cons_succ]
        refine wpAnyH_take (i := 16) (v := ?_) rfl (by kernel_rfl) (by kernel_rfl) (by kernel_rfl) (fun _ _ _ h => h) (Or.inl ⟨by rfl, ?_⟩) (by assumption) ?_
        rotate_left
        · (intro w hSw; (try dsimp only at hSw); go_simp) <;> with_reducible rfl
        try simp only [Act.put, List.getElem_toArray, List.getElem_cons_succ, List.getElem_cons_zero, List.setIfInBounds_toArray, List.set_cons_zero, List.set_cons_succ]
        refine wpAnyH_done (by kernel_rfl) ?_ _
        all_goals go_wp2
        all_goals go_ret
        all_goals have Kn : Kp w [(⟨wr.heap.size, 0, none⟩, .int .i64 l[k].time), (⟨wr.heap.size, 1, none⟩, .string l[k].star), (⟨wr.heap.size, 2, none⟩, .string l[k].obs), (⟨wr.heap.size, 3, none⟩, .int .i64 l[k].mag), (⟨wr.heap.size, 4, none⟩, .bool l[k].fain)] w1 := by assumption
        all_goals exact ⟨ret_bool (valid_bad hlt (step_bad hlt (est_at hlt h0))).symm, Kn.b⟩
      · cases k with
        | zero =>
          have hst := hide (show stepOk estOk estLt l 0 = true from (step_zero hlt).trans (est_at hlt h0))
          have f0 : wr.cell? ⟨g, off, none⟩ = some (.int .i64 l[0].time) := f0
          have f1 : wr.cell? ⟨g, off + 1, none⟩ = some (.string l[0].star) := f1
          have f2 : wr.cell? ⟨g, off + 2, none⟩ = some (.string l[0].obs) := f2
          have f3 : wr.cell? ⟨g, off + 3, none⟩ = some (.int .i64 l[0].mag) := f3
          have f4 : wr.cell? ⟨g, off + 4, none⟩ = some (.bool l[0].fain) := f4
          clear hc hr hb
          have K0 : Kp w [(⟨wr.heap.size, 0, none⟩, .int .i64 l[0].time), (⟨wr.heap.size, 1, none⟩, .string l[0].star), (⟨wr.heap.size, 2, none⟩, .string l[0].obs), (⟨wr.heap.size, 3, none⟩, .int .i64 l[0].mag), (⟨wr.heap.size, 4, none⟩, .bool l[0].fain)] (wr.alloc (.cells #[.int .i64 l[0].time, .string l[0].star, .string l[0].obs, .int .i64 l[0].mag, .bool l[0].fain] 49)).drew := ⟨(Hb.out.trans ((Below.refl _ _).alloc (by omega) _)).drew, fun p hp => by
            simp only [List.mem_cons, List.not_mem_nil, or_false] at hp
            rcases hp with rfl | rfl | rfl | rfl | rfl <;> refine ⟨?_, ?_⟩ <;> first | (simp [go_sem]; done) | (simp [go_sem]; omega) | (exact (((Below.refl wr.heap.size wr).alloc (Nat.le_refl _) _).drew.cell hgw).trans (by assumption))⟩
          go_wp2_with fail
          refine wp_region_held_drew (S := (fun w' => w'.cell? ⟨wr.heap.size, 0, none⟩ = some (.int .i64 l[0].time) ∧ w'.cell? ⟨wr.heap.size, 1, none⟩ = some (.string l[0].star) ∧ w'.cell? ⟨wr.heap.size, 2, none⟩ = some (.string l[0].obs) ∧ w'.cell? ⟨wr.heap.size, 3, none⟩ = some (.int .i64 l[0].mag) ∧ w'.cell? ⟨wr.heap.size, 4, none⟩ = some (.bool l[0].fain))) (by kernel_rfl) ?_ (fun hHeld => ?_)
          · (try dsimp only); go_keep
          refine wpAnyH_take (i := 0) (v := ?_) rfl (by kernel_rfl) (by kernel_rfl) (by kernel_rfl) (fun _ _ _ h => h) (Or.inl ⟨by rfl, ?_⟩) (by assumption) ?_
          rotate_left
          · (intro w hSw; (try dsimp only at hSw); go_simp) <;> with_reducible rfl
          try simp only [Act.put, List.getElem_toArray, List.getElem_cons_succ, List.getElem_cons_zero, List.setIfInBounds_toArray, List.set_cons_zero, List.set_cons_succ]
          refine wpAnyH_ready (rs := [1]) (by kernel_rfl) (by simp) ?_
          refine AllReadyH.cons rfl (fun K hK => ?_) AllReadyH.nil
          go_simp
          (go_at_call 123; refine (isEstimate_bit h0 _ (by assumption) (by assumption)).mono ?_; rintro e w1 ⟨rfl, hb1⟩; have Kn := Kp.below (by assumption) hb1; have dd0 := Kn.at0; have dd1 := Kn.at1; have dd2 := Kn.at2; have dd3 := Kn.at3; have dd4 := Kn.at4)
          try go_wp2_with fail
          refine hK.out _ _ ?_ (fun hHeld => ?_)
          · (try dsimp only); go_keep
          clear hK K
          try simp only [Act.put, List.getElem_toArray, List.getElem_cons_succ, List.getElem_cons_zero, List.setIfInBounds_toArray, List.set_cons_zero, List.set_cons_succ]
          refine wpAnyH_take (i := 2) (v := ?_) rfl (by kernel_rfl) (by kernel_rfl) (by kernel_rfl) (fun _ _ _ h => h) (Or.inl ⟨by rfl, ?_⟩) (by assumption) ?_
          rotate_left
          · (intro w hSw; (try dsimp only at hSw); go_simp) <;> with_reducible rfl
          try simp only [Act.put, List.getElem_toArray, List.getElem_cons_succ, List.getElem_cons_zero, List.setIfInBounds_toArray, List.set_cons_zero, List.set_cons_succ]
          refine wpAnyH_take (i := 3) (v := ?_) rfl (by kernel_rfl) (by kernel_rfl) (by kernel_rfl) (fun _ _ _ h => h) (Or.inl ⟨by rfl, ?_⟩) (by assumption) ?_
          rotate_left
          · (intro w hSw; (try dsimp only at hSw); go_simp) <;> with_reducible rfl
          try simp only [Act.put, List.getElem_toArray, List.getElem_cons_succ, List.getElem_cons_zero, List.setIfInBounds_toArray, List.set_cons_zero, List.set_cons_succ]
          refine wpAnyH_take (i := 4) (v := ?_) rfl (by kernel_rfl) (by kernel_rfl) (by kernel_rfl) (fun _ _ _ h => h) (Or.inl ⟨by rfl, ?_⟩) (by assumption) ?_
          rotate_left
          · (intro w hSw; (try dsimp only at hSw); go_simp) <;> with_reducible rfl
          try simp only [Act.put, List.getElem_toArray, List.getElem_cons_succ, List.getElem_cons_zero, List.setIfInBounds_toArray, List.set_cons_zero, List.set_cons_succ]
          refine wpAnyH_take (i := 5) (v := ?_) rfl (by kernel_rfl) (by kernel_rfl) (by kernel_rfl) (fun _ _ _ h => h) (Or.inl ⟨by rfl, ?_⟩) (by assumption) ?_
          rotate_left
          · (intro w hSw; (try dsimp only at hSw); go_simp) <;> with_reducible rfl
          try simp only [Act.put, List.getElem_toArray, List.getElem_cons_succ, List.getElem_cons_zero, List.setIfInBounds_toArray, List.set_cons_zero, List.set_cons_succ]
          refine wpAnyH_take (i := 6) (v := ?_) rfl (by kernel_rfl) (by kernel_rfl) (by kernel_rfl) (fun _ _ _ h => h) (Or.inl ⟨by rfl, ?_⟩) (by assumption) ?_
          rotate_left
          · (intro w hSw; (try dsimp only at hSw); go_simp) <;> with_reducible rfl
          try simp only [Act.put, List.getElem_toArray, List.getElem_cons_succ, List.getElem_cons_zero, List.setIfInBounds_toArray, List.set_cons_zero, List.set_cons_succ]
          refine wpAnyH_take (i := 7) (v := undef) rfl (by kernel_rfl) (by kernel_rfl) (by kernel_rfl) (fun _ _ _ h => h) (Or.inr ⟨by rfl, rfl⟩) (by assumption) ?_
          try simp only [Act.put, List.getElem_toArray, List.getElem_cons_succ, List.getElem_cons_zero, List.setIfInBounds_toArray, List.set_cons_zero, List.set_cons_succ]
          refine wpAnyH_take (i := 8) (v := undef) rfl (by kernel_rfl) (by kernel_rfl) (by kernel_rfl) (fun _ _ _ h => h) (Or.inr ⟨by rfl, rfl⟩) (by assumption) ?_
          try simp only [Act.put, List.getElem_toArray, List.getElem_cons_succ, List.getElem_cons_zero, List.setIfInBounds_toArray, List.set_cons_zero, List.set_cons_succ]
          refine wpAnyH_take (i := 9) (v := undef) rfl (by kernel_rfl) (by kernel_rfl) (by kernel_rfl) (fun _ _ _ h => h) (Or.inr ⟨by rfl, rfl⟩) (by assumption) ?_
          try simp only [Act.put, List.getElem_toArray, List.getElem_cons_succ, List.getElem_cons_zero, List.setIfInBounds_toArray, List.set_cons_zero, List.set_cons_succ]
          refine wpAnyH_take (i := 10) (v := undef) rfl (by kernel_rfl) (by kernel_rfl) (by kernel_rfl) (fun _ _ _ h => h) (Or.inr ⟨by rfl, rfl⟩) (by assumption) ?_
          try simp only [Act.put, List.getElem_toArray, List.getElem_cons_succ, List.getElem_cons_zero, List.setIfInBounds_toArray, List.set_cons_zero, List.set_cons_succ]
          refine wpAnyH_take (i := 11) (v := undef) rfl (by kernel_rfl) (by kernel_rfl) (by kernel_rfl) (fun _ _ _ h => h) (Or.inr ⟨by rfl, rfl⟩) (by assumption) ?_
          try simp only [Act.put, List.getElem_toArray, List.getElem_cons_succ, List.getElem_cons_zero, List.setIfInBounds_toArray, List.set_cons_zero, List.set_cons_succ]
          refine wpAnyH_take (i := 12) (v := undef) rfl (by kernel_rfl) (by kernel_rfl) (by kernel_rfl) (fun _ _ _ h => h) (Or.inr ⟨by rfl, rfl⟩) (by assumption) ?_
          try simp only [Act.put, List.getElem_toArray, List.getElem_cons_succ, List.getElem_cons_zero, List.setIfInBounds_toArray, List.set_cons_zero, List.set_cons_succ]
          refine wpAnyH_take (i := 13) (v := undef) rfl (by kernel_rfl) (by kernel_rfl) (by kernel_rfl) (fun _ _ _ h => h) (Or.inr ⟨by rfl, rfl⟩) (by assumption) ?_
          try simp only [Act.put, List.getElem_toArray, List.getElem_cons_succ, List.getElem_cons_zero, List.setIfInBounds_toArray, List.set_cons_zero, List.set_cons_succ]
          refine wpAnyH_take (i := 14) (v := undef) rfl (by kernel_rfl) (by kernel_rfl) (by kernel_rfl) (fun _ _ _ h => h) (Or.inr ⟨by rfl, rfl⟩) (by assumption) ?_
          try simp only [Act.put, List.getElem_toArray, List.getElem_cons_succ, List.getElem_cons_zero, List.setIfInBounds_toArray, List.set_cons_zero, List.set_cons_succ]
          refine wpAnyH_take (i := 15) (v := ?_) rfl (by kernel_rfl) (by kernel_rfl) (by kernel_rfl) (fun _ _ _ h => h) (Or.inl ⟨by rfl, ?_⟩) (by assumption) ?_
          rotate_left
          · (intro w hSw; (try dsimp only at hSw); go_simp) <;> with_reducible rfl
          try simp only [Act.put, List.getElem_toArray, List.getElem_cons_succ, List.getElem_cons_zero, List.setIfInBounds_toArray, List.set_cons_zero, List.set_cons_succ]
          refine wpAnyH_take (i := 16) (v := ?_) rfl (by kernel_rfl) (by kernel_rfl) (by kernel_rfl) (fun _ _ _ h => h) (Or.inl ⟨by rfl, ?_⟩) (by assumption) ?_
          rotate_left
          · (intro w hSw; (try dsimp only at hSw); go_simp) <;> with_reducible rfl
          try simp only [Act.put, List.getElem_toArray, List.getElem_cons_succ, List.getElem_cons_zero, List.setIfInBounds_toArray, List.set_cons_zero, List.set_cons_succ]
          refine wpAnyH_done (by kernel_rfl) ?_ _
          all_goals
            have Kn : Kp w [(⟨wr.heap.size, 0, none⟩, .int .i64 l[0].time), (⟨wr.heap.size, 1, none⟩, .string l[0].star), (⟨wr.heap.size, 2, none⟩, .string l[0].obs), (⟨wr.heap.size, 3, none⟩, .int .i64 l[0].mag), (⟨wr.heap.size, 4, none⟩, .bool l[0].fain)] w1 := by assumption
            go_wp2
            go_roundw
            case rel => exact ⟨1, by omega, by go_num, Kn.b, steps_next hs.out hst.out⟩
            case measure => simp [intOf]; omega
        | succ j =>
          have hlj : j < l.length := by omega
          obtain ⟨g', off', he, hg', hc'⟩ := hr.elem EstT.cells_len hlj
          injection he with he
          injection he with he1 he2 _
          subst he1 he2
          have h1 : wr.cell? ⟨g, off + j * 5, none⟩ = some (.int .i64 l[j].time) := (hb.cell (p := ⟨g, off + j * 5, none⟩) hg').trans (hc' 0 _ rfl)
          have h2 : wr.cell? ⟨g, off + j * 5 + 1, none⟩ = some (.string l[j].star) := (hb.cell (p := ⟨g, off + j * 5 + 1, none⟩) hg').trans (hc' 1 _ rfl)
          have h3 : wr.cell? ⟨g, off + j * 5 + 2, none⟩ = some (.string l[j].obs) := (hb.cell (p := ⟨g, off + j * 5 + 2, none⟩) hg').trans (hc' 2 _ rfl)
          have h4 : wr.cell? ⟨g, off + j * 5 + 3, none⟩ = some (.int .i64 l[j].mag) := (hb.cell (p := ⟨g, off + j * 5 + 3, none⟩) hg').trans (hc' 3 _ rfl)
          have h5 : wr.cell? ⟨g, off + j * 5 + 4, none⟩ = some (.bool l[j].fain) := (hb.cell (p := ⟨g, off + j * 5 + 4, none⟩) hg').trans (hc' 4 _ rfl)
          have i1 : (0 : Int) ≤ (j : Int) := by omega
          have i2 : (j : Int) < (l.length : Int) := by omega
          have hwj : IntKind.i64.wrap (j : Int) = j := by rw [IntKind.wrap_i64]; omega
          clear hc hc' hr hb
          have K0 : Kp w [(⟨wr.heap.size, 0, none⟩, .int .i64 l[j + 1].time), (⟨wr.heap.size, 1, none⟩, .string l[j + 1].star), (⟨wr.heap.size, 2, none⟩, .string l[j + 1].obs), (⟨wr.heap.size, 3, none⟩, .int .i64 l[j + 1].mag), (⟨wr.heap.size, 4, none⟩, .bool l[j + 1].fain), (⟨g, off + j * 5, none⟩, .int .i64 l[j].time), (⟨g, off + j * 5 + 1, none⟩, .string l[j].star), (⟨g, off + j * 5 + 2, none⟩, .string l[j].obs), (⟨g, off + j * 5 + 3, none⟩, .int .i64 l[j].mag), (⟨g, off + j * 5 + 4, none⟩, .bool l[j].fain)] (wr.alloc (.cells #[.int .i64 l[j + 1].time, .string l[j + 1].star, .string l[j + 1].obs, .int .i64 l[j + 1].mag, .bool l[j + 1].fain] 49)).drew := ⟨(Hb.out.trans ((Below.refl _ _).alloc (by omega) _)).drew, fun p hp => by
            simp only [List.mem_cons, List.not_mem_nil, or_false] at hp
            rcases hp with rfl | rfl | rfl | rfl | rfl | rfl | rfl | rfl | rfl | rfl <;> refine ⟨?_, ?_⟩ <;> first | (simp [go_sem]; done) | (simp [go_sem]; omega) | (exact (((Below.refl wr.heap.size wr).alloc (Nat.le_refl _) _).drew.cell hgw).trans (by assumption))⟩
          cases hq : estLt l[j] l[j + 1]
          · have hst := hide (show stepOk estOk estLt l (j + 1) = false from (step_succ hlt).trans (by rw [est_at hlt h0]; exact hq))
            have hge := hide (cmp_ge hq)
            go_wp2_with fail
            go_region_held3 (fun w' => w'.cell? ⟨wr.heap.size, 0, none⟩ = some (.int .i64 l[j + 1].time) ∧ w'.cell? ⟨wr.heap.size, 1, none⟩ = some (.string l[j + 1].star) ∧ w'.cell? ⟨wr.heap.size, 2, none⟩ = some (.string l[j + 1].obs) ∧ w'.cell? ⟨wr.heap.size, 3, none⟩ = some (.int .i64 l[j + 1].mag) ∧ w'.cell? ⟨wr.heap.size, 4, none⟩ = some (.bool l[j + 1].fain) ∧ w'.cell? ⟨g, off + j * 5, none⟩ = some (.int .i64 l[j].time) ∧ w'.cell? ⟨g, off + j * 5 + 1, none⟩ = some (.string l[j].star) ∧ w'.cell? ⟨g, off + j * 5 + 2, none⟩ = some (.string l[j].obs) ∧ w'.cell? ⟨g, off + j * 5 + 3, none⟩ = some (.int .i64 l[j].mag) ∧ w'.cell? ⟨g, off + j * 5 + 4, none⟩ = some (.bool l[j].fain)) (go_keep) (first | (go_at_call 123; refine (isEstimate_bit h0 _ (by assumption) (by assumption)).mono ?_; rintro e w1 ⟨rfl, hb1⟩; have Kn := Kp.below (by assumption) hb1; have dd0 := Kn.at0; have dd1 := Kn.at1; have dd2 := Kn.at2; have dd3 := Kn.at3; have dd4 := Kn.at4; have dd5 := Kn.at5; have dd6 := Kn.at6; have dd7 := Kn.at7; have dd8 := Kn.at8; have dd9 := Kn.at9) | (go_at_call 124; refine (compareEstimates_any l[j] l[j + 1] _).mono ?_; rintro e w1 ⟨rfl, hb1⟩; have Kn := Kp.below (by assumption) hb1; have dd0 := Kn.at0; have dd1 := Kn.at1; have dd2 := Kn.at2; have dd3 := Kn.at3; have dd4 := Kn.at4; have dd5 := Kn.at5; have dd6 := Kn.at6; have dd7 := Kn.at7; have dd8 := Kn.at8; have dd9 := Kn.at9))
            have Kn : Kp w [(⟨wr.heap.size, 0, none⟩, .int .i64 l[j + 1].time), (⟨wr.heap.size, 1, none⟩, .string l[j + 1].star), (⟨wr.heap.size, 2, none⟩, .string l[j + 1].obs), (⟨wr.heap.size, 3, none⟩, .int .i64 l[j + 1].mag), (⟨wr.heap.size, 4, none⟩, .bool l[j + 1].fain), (⟨g, off + j * 5, none⟩, .int .i64 l[j].time), (⟨g, off + j * 5 + 1, none⟩, .string l[j].star), (⟨g, off + j * 5 + 2, none⟩, .string l[j].obs), (⟨g, off + j * 5 + 3, none⟩, .int .i64 l[j].mag), (⟨g, off + j * 5 + 4, none⟩, .bool l[j].fain)] w1 := by assumption
            have hge' : 0 ≤ cmpEst l[j] l[j + 1] := hge.out
            go_wp2
            go_ret
            exact ⟨ret_bool (valid_bad hlt hst.out).symm, Kn.b⟩
          · have hst := hide (show stepOk estOk estLt l (j + 1) = true from (step_succ hlt).trans (by rw [est_at hlt h0]; exact hq))
            have hge := hide (cmp_lt hq)
            go_wp2_with fail
            go_region_held3 (fun w' => w'.cell? ⟨wr.heap.size, 0, none⟩ = some (.int .i64 l[j + 1].time) ∧ w'.cell? ⟨wr.heap.size, 1, none⟩ = some (.string l[j + 1].star) ∧ w'.cell? ⟨wr.heap.size, 2, none⟩ = some (.string l[j + 1].obs) ∧ w'.cell? ⟨wr.heap.size, 3, none⟩ = some (.int .i64 l[j + 1].mag) ∧ w'.cell? ⟨wr.heap.size, 4, none⟩ = some (.bool l[j + 1].fain) ∧ w'.cell? ⟨g, off + j * 5, none⟩ = some (.int .i64 l[j].time) ∧ w'.cell? ⟨g, off + j * 5 + 1, none⟩ = some (.string l[j].star) ∧ w'.cell? ⟨g, off + j * 5 + 2, none⟩ = some (.string l[j].obs) ∧ w'.cell? ⟨g, off + j * 5 + 3, none⟩ = some (.int .i64 l[j].mag) ∧ w'.cell? ⟨g, off + j * 5 + 4, none⟩ = some (.bool l[j].fain)) (go_keep) (first | (go_at_call 123; refine (isEstimate_bit h0 _ (by assumption) (by assumption)).mono ?_; rintro e w1 ⟨rfl, hb1⟩; have Kn := Kp.below (by assumption) hb1; have dd0 := Kn.at0; have dd1 := Kn.at1; have dd2 := Kn.at2; have dd3 := Kn.at3; have dd4 := Kn.at4; have dd5 := Kn.at5; have dd6 := Kn.at6; have dd7 := Kn.at7; have dd8 := Kn.at8; have dd9 := Kn.at9) | (go_at_call 124; refine (compareEstimates_any l[j] l[j + 1] _).mono ?_; rintro e w1 ⟨rfl, hb1⟩; have Kn := Kp.below (by assumption) hb1; have dd0 := Kn.at0; have dd1 := Kn.at1; have dd2 := Kn.at2; have dd3 := Kn.at3; have dd4 := Kn.at4; have dd5 := Kn.at5; have dd6 := Kn.at6; have dd7 := Kn.at7; have dd8 := Kn.at8; have dd9 := Kn.at9))
            have Kn : Kp w [(⟨wr.heap.size, 0, none⟩, .int .i64 l[j + 1].time), (⟨wr.heap.size, 1, none⟩, .string l[j + 1].star), (⟨wr.heap.size, 2, none⟩, .string l[j + 1].obs), (⟨wr.heap.size, 3, none⟩, .int .i64 l[j + 1].mag), (⟨wr.heap.size, 4, none⟩, .bool l[j + 1].fain), (⟨g, off + j * 5, none⟩, .int .i64 l[j].time), (⟨g, off + j * 5 + 1, none⟩, .string l[j].star), (⟨g, off + j * 5 + 2, none⟩, .string l[j].obs), (⟨g, off + j * 5 + 3, none⟩, .int .i64 l[j].mag), (⟨g, off + j * 5 + 4, none⟩, .bool l[j].fain)] w1 := by assumption
            have hge' : ¬ 0 ≤ cmpEst l[j] l[j + 1] := by have := hge.out; omega
            go_wp2
            go_roundw
            case rel => exact ⟨j + 1 + 1, by omega, by go_num, Kn.b, steps_next hs.out hst.out⟩
            case measure => simp [intOf]; omega
    · obtain rfl : k = l.length := by omega
      clear hr hb
      go_wp2
      go_ret
      exact ⟨ret_bool (by rw [valid_good hs.out]; simp; omega), Hb.out⟩
theorem spec_l06One_bit {time : Int} {star obs : ByteArray} {mag : Int} {fain : Bool} {b : Bool} (h : estB time star obs mag = b) (w : World) (gs : star.size ≤ maxLen) (go : obs.size ≤ maxLen) (g o1 : Nat) (k0 : w.cell? ⟨g, o1, none⟩ = some (.int .i64 time)) (k1 : w.cell? ⟨g, o1 + 1, none⟩ = some (.string star)) (k2 : w.cell? ⟨g, o1 + 2, none⟩ = some (.string obs)) (k3 : w.cell? ⟨g, o1 + 3, none⟩ = some (.int .i64 mag)) (k4 : w.cell? ⟨g, o1 + 4, none⟩ = some (.bool fain)) (N : Nat) : Calls Try.prog 119 #[.pointer (some ⟨g, o1, none⟩)] (w.drewN N) fun e w' => e = .returned (.bool b) ∧ ∃ m, w' = (w.drewN N).drewN m :=
  (h ▸ spec_l06One_any time star obs mag fain (w.drewN N) gs go g o1 k0 k1 k2 k3 k4 : Calls Try.prog 119 #[.pointer (some ⟨g, o1, none⟩)] (w.drewN N) fun e w' => e = .returned (.bool b) ∧ w.drewN N = w').mono (fun e w' h => ⟨h.1, 0, by rw [← h.2]; rfl⟩)
set_option maxHeartbeats 4000000 in
theorem l06Ok_any (A : Option Addr) (c : Nat) (l : List EstT) (w : World) (hn : l.length ≤ 1048576) (hok : ∀ x ∈ l, x.ok) (hr : Rd w w.heap.size 5 A l.length (l.flatMap EstT.cells)) :
    Calls Try.prog 83 #[.slice A l.length c] w fun e w' => e = .returned (.bool (validB estOk estLt 100 l)) ∧ Below w.heap.size w w' := by
  have HO := hide hok
  clear hok
  go_enter Try.func83, Try.ntmps83
  go_wp2_with fail
  go_loopw [3] (fun i wr => ∃ k : Nat, k ≤ l.length ∧ i = .int .i64 k ∧ (∃ n, wr = w.drewN n) ∧ Hid (∀ j, j < k → stepOk estOk estLt l j = true)) (fun i _ => l.length - (intOf i).toNat)
  case atStart => exact ⟨0, by omega, rfl, ⟨0, rfl⟩, fun j hj => absurd hj (by omega)⟩
  case round =>
    obtain ⟨k, hk, rfl, ⟨n, rfl⟩, hs⟩ := hrel
    by_cases hlt : k < l.length
    · obtain ⟨g, off, rfl, hg, hc⟩ := hr.elem EstT.cells_len hlt
      have f0 : w.cell? ⟨g, off + k * 5, none⟩ = some (.int .i64 l[k].time) := hc 0 _ rfl
      have f1 : w.cell? ⟨g, off + k * 5 + 1, none⟩ = some (.string l[k].star) := hc 1 _ rfl
      have f2 : w.cell? ⟨g, off + k * 5 + 2, none⟩ = some (.string l[k].obs) := hc 2 _ rfl
      have f3 : w.cell? ⟨g, off + k * 5 + 3, none⟩ = some (.int .i64 l[k].mag) := hc 3 _ rfl
      have f4 : w.cell? ⟨g, off + k * 5 + 4, none⟩ = some (.bool l[k].fain) := hc 4 _ rfl
      have hsz : l[k].star.size ≤ maxLen := (HO.out l[k] (List.getElem_mem _)).2.1
      have hsz2 : l[k].obs.size ≤ maxLen := (HO.out l[k] (List.getElem_mem _)).2.2.1
      have i1 : (0 : Int) ≤ (k : Int) := by omega
      have i2 : (k : Int) < (l.length : Int) := by omega
      cases h0 : estB l[k].time l[k].star l[k].obs l[k].mag
      · have hq1 := hide (spec_l06One_bit h0 w hsz hsz2 g _ f0 f1 f2 f3 f4)
        clear hc hr
        go_wp2_with fail
        go_quiet ((go_at_call 119; with_reducible first | exact Calls.quiet_of (hq1.out _) | exact qadd_ex (hq1.out _)))
        go_wp2
        go_ret
        exact ⟨ret_bool (valid_bad hlt (step_bad hlt (est_at hlt h0))).symm, (by repeat (first | exact Below.refl _ _ | assumption | refine Below.drew ?_ | refine below_drewN ?_ _ | refine Below.alloc ?_ (by first | omega | (simp; done) | (simp; omega)) _ | refine Below.setCell ?_ (by first | omega | (simp; done) | (simp; omega)) _ | refine Below.trans ?_ (Below.mono (by assumption) (by first | omega | (simp; done) | (simp; omega)))))⟩
      · cases k with
        | zero =>
          have hst := hide (show stepOk estOk estLt l 0 = true from (step_zero hlt).trans (est_at hlt h0))
          have f0 : w.cell? ⟨g, off, none⟩ = some (.int .i64 l[0].time) := f0
          have f1 : w.cell? ⟨g, off + 1, none⟩ = some (.string l[0].star) := f1
          have f2 : w.cell? ⟨g, off + 2, none⟩ = some (.string l[0].obs) := f2
          have f3 : w.cell? ⟨g, off + 3, none⟩ = some (.int .i64 l[0].mag) := f3
          have f4 : w.cell? ⟨g, off + 4, none⟩ = some (.bool l[0].fain) := f4
          have hq1 := hide (spec_l06One_bit h0 w hsz hsz2 g _ f0 f1 f2 f3 f4)
          clear hc hr
          go_wp2_with fail
          go_quiet ((go_at_call 119; with_reducible first | exact Calls.quiet_of (hq1.out _) | exact qadd_ex (hq1.out _)))
          go_wp2
          go_roundw
          case rel => exact ⟨1, by omega, by go_num, ⟨_, by first | rfl | exact World.drewN_drewN⟩, steps_next hs.out hst.out⟩
          case measure => simp [intOf]; omega
        | succ j =>
          have hlj : j < l.length := by omega
          obtain ⟨g', off', he, hg', hc'⟩ := hr.elem EstT.cells_len hlj
          injection he with he
          injection he with he1 he2 _
          subst he1 he2
          have h1 : w.cell? ⟨g, off + j * 5, none⟩ = some (.int .i64 l[j].time) := hc' 0 _ rfl
          have h2 : w.cell? ⟨g, off + j * 5 + 1, none⟩ = some (.string l[j].star) := hc' 1 _ rfl
          have h3 : w.cell? ⟨g, off + j * 5 + 2, none⟩ = some (.string l[j].obs) := hc' 2 _ rfl
          have h4 : w.cell? ⟨g, off + j * 5 + 3, none⟩ = some (.int .i64 l[j].mag) := hc' 3 _ rfl
          have h5 : w.cell? ⟨g, off + j * 5 + 4, none⟩ = some (.bool l[j].fain) := hc' 4 _ rfl
          have i3 : (0 : Int) ≤ (j : Int) := by omega
          have i4 : (j : Int) < (l.length : Int) := by omega
          have hq1 := hide (spec_l06One_bit h0 w hsz hsz2 g _ f0 f1 f2 f3 f4)
          have hwj : IntKind.i64.wrap (j : Int) = j := by rw [IntKind.wrap_i64]; omega
          clear hc hc' hr
          cases hq : estLt l[j] l[j + 1]
          · have hst := hide (show stepOk estOk estLt l (j + 1) = false from (step_succ hlt).trans (by rw [est_at hlt h0]; exact hq))
            have hq2 := hide (l06Before_bit hq w g _ _ h1 h2 h3 f0 f1 f2)
            go_wp2_with fail
            go_quiet ((first | (go_at_call 119; with_reducible first | exact Calls.quiet_of (hq1.out _) | exact qadd_ex (hq1.out _)) | (go_at_call 120; with_reducible first | exact Calls.quiet_of (hq2.out _) | exact qadd_ex (hq2.out _))))
            go_wp2
            go_ret
            exact ⟨ret_bool (valid_bad hlt hst.out).symm, (by repeat (first | exact Below.refl _ _ | assumption | refine Below.drew ?_ | refine below_drewN ?_ _ | refine Below.alloc ?_ (by first | omega | (simp; done) | (simp; omega)) _ | refine Below.setCell ?_ (by first | omega | (simp; done) | (simp; omega)) _ | refine Below.trans ?_ (Below.mono (by assumption) (by first | omega | (simp; done) | (simp; omega)))))⟩
          · have hst := hide (show stepOk estOk estLt l (j + 1) = true from (step_succ hlt).trans (by rw [est_at hlt h0]; exact hq))
            have hq2 := hide (l06Before_bit hq w g _ _ h1 h2 h3 f0 f1 f2)
            go_wp2_with fail
            go_quiet ((first | (go_at_call 119; with_reducible first | exact Calls.quiet_of (hq1.out _) | exact qadd_ex (hq1.out _)) | (go_at_call 120; with_reducible first | exact Calls.quiet_of (hq2.out _) | exact qadd_ex (hq2.out _))))
            go_wp2
            go_roundw
            case rel => exact ⟨j + 1 + 1, by omega, by go_num, ⟨_, by first | rfl | exact World.drewN_drewN⟩, steps_next hs.out hst.out⟩
            case measure => simp [intOf]; omega
    · obtain rfl : k = l.length := by omega
      clear hr
      go_wp2
      go_ret
      exact ⟨ret_bool (by rw [valid_good hs.out]; by_cases h : l.length ≤ 100 <;> simp [h] <;> omega), (by repeat (first | exact Below.refl _ _ | assumption | refine Below.drew ?_ | refine below_drewN ?_ _ | refine Below.alloc ?_ (by first | omega | (simp; done) | (simp; omega)) _ | refine Below.setCell ?_ (by first | omega | (simp; done) | (simp; omega)) _ | refine Below.trans ?_ (Below.mono (by assumption) (by first | omega | (simp; done) | (simp; omega)))))⟩
theorem valE_end : True := trivial
end Go.Proofs.Ytldgelkgobocdaa
