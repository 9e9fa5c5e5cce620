/-
  Contracts of the loops that test lists of records: observers.
-/
import Derived.Test.YtldgelkgobocdaaOk
import Derived.Test.YtldgelkgobocdaaPlB
import Derived.Test.YtldgelkgobocdaaKp
import Derived.Deep.RegionHeld3
import Derived.Deep.RegionWith
import Derived.Deep.QuietTactic
import Derived.BigQuiet
import Derived.WalkLawsBesides
import Derived.Outline
namespace Go.Proofs.Ytldgelkgobocdaa
open Go.RowKit Pl
set_option linter.unusedVariables false
set_option linter.unusedSimpArgs false
theorem qadd_ex {P : Program} {f : FuncId} {args : Array Value} {w : World} {b n : Nat} {v : Value} (h : Calls P f args (w.drewN (b + n)) fun e w' => e = .returned v ∧ ∃ m, w' = (w.drewN (b + n)).drewN m) : Calls P f args (w.drewN (b + n)) fun e w' => e = .returned v ∧ ∃ m, w' = w.drewN (b + m) :=
  h.mono fun _ _ ⟨he, m, hm⟩ => ⟨he, n + m, by rw [hm, World.drewN_drewN, Nat.add_assoc]⟩
def obsLt (x y : ObsT) : Bool := Op.bytesLess x.name.toList y.name.toList
theorem obs_at {l : List ObsT} {k : Nat} (h : k < l.length) {b : Bool} (hb : obsB l[k].name l[k].shift = b) : obsOk (l[k]'h) = b := hb
theorem observerName_any (name : ByteArray) (shift : Int) (w : World) : Calls Try.prog 105 #[.agg #[.string name, .int .i64 shift]] w fun e w' => e = .returned (.string name) ∧ Below w.heap.size w w' := by
  go_enter Try.func105, Try.ntmps105
  go_wp2
  go_ret
  exact ⟨rfl, (by repeat (first | exact Below.refl _ _ | assumption | refine Below.drew ?_ | refine below_drewN ?_ _ | refine Below.alloc ?_ (by first | omega | (simp; done) | (simp; omega)) _ | refine Below.setCell ?_ (by first | omega | (simp; done) | (simp; omega)) _ | refine Below.trans ?_ (Below.mono (by assumption) (by first | omega | (simp; done) | (simp; omega)))))⟩
theorem isObserver_bit {name shift} {b : Bool} (h : obsB name shift = b) (w : World) (gs : name.size ≤ maxLen) : Calls Try.prog 103 #[.agg #[.string name, .int .i64 shift]] w fun e w' => e = .returned (.bool b) ∧ Below w.heap.size w w' := h ▸ impl_isObserver_any name shift w gs
set_option maxHeartbeats 2000000 in
theorem rising_Observer_any (A : Option Addr) (c : Nat) (l : List ObsT) (w : World) (hn : l.length ≤ 1048576) (hok : ∀ x ∈ l, x.ok) (hr : Rd w w.heap.size 2 A l.length (l.flatMap ObsT.cells)) :
    Calls Try.prog 114 #[.slice A l.length c, .int .i64 40, .func (.func 103) #[] #[], .func (.func 105) #[] #[]] w fun e w' => e = .returned (.bool (validB obsOk obsLt 40 l)) ∧ Below w.heap.size w w' := by
  have HO := hide hok
  clear hok
  by_cases hm : 40 < l.length
  · clear hr
    go_enter Try.func114, Try.ntmps114
    go_wp2
    go_ret
    exact ⟨ret_bool (valid_long hm).symm, (by repeat (first | exact Below.refl _ _ | assumption | refine Below.drew ?_ | refine below_drewN ?_ _ | refine Below.alloc ?_ (by first | omega | (simp; done) | (simp; omega)) _ | refine Below.setCell ?_ (by first | omega | (simp; done) | (simp; omega)) _ | refine Below.trans ?_ (Below.mono (by assumption) (by first | omega | (simp; done) | (simp; omega)))))⟩
  go_enter Try.func114, Try.ntmps114
  go_wp2_with fail
  go_loopw [17] (fun i wr => ∃ k : Nat, k ≤ l.length ∧ i = .int .i64 k ∧ Below w.heap.size w wr ∧ Hid (∀ j, j < k → stepOk obsOk obsLt l j = true)) (fun i _ => l.length - (intOf i).toNat)
  case atStart => exact ⟨0, by omega, rfl, (by repeat (first | exact Below.refl _ _ | assumption | refine Below.drew ?_ | refine below_drewN ?_ _ | refine Below.alloc ?_ (by first | omega | (simp; done) | (simp; omega)) _ | refine Below.setCell ?_ (by first | omega | (simp; done) | (simp; omega)) _ | refine Below.trans ?_ (Below.mono (by assumption) (by first | omega | (simp; done) | (simp; omega))))), fun j hj => absurd hj (by omega)⟩
  case round =>
    obtain ⟨k, hk, rfl, hb, hs⟩ := hrel
    have Hb := hide hb
    by_cases hlt : k < l.length
    · obtain ⟨g, off, rfl, hg, hc⟩ := hr.elem ObsT.cells_len hlt
      have f0 : wr.cell? ⟨g, off + k * 2, none⟩ = some (.string l[k].name) := (hb.cell (p := ⟨g, off + k * 2, none⟩) hg).trans (hc 0 _ rfl)
      have f1 : wr.cell? ⟨g, off + k * 2 + 1, none⟩ = some (.int .i64 l[k].shift) := (hb.cell (p := ⟨g, off + k * 2 + 1, none⟩) hg).trans (hc 1 _ rfl)
      have hsz : l[k].name.size ≤ maxLen := (HO.out l[k] (List.getElem_mem _)).1
      have hgw : g < wr.heap.size := by have := hb.size; omega
      have hww : w.heap.size ≤ wr.heap.size := hb.size
      cases h0 : obsB l[k].name l[k].shift
      · clear hc hr hb
        have K0 : Kp w [(⟨wr.heap.size, 0, none⟩, .string l[k].name), (⟨wr.heap.size, 1, none⟩, .int .i64 l[k].shift)] (wr.alloc (.cells #[.string l[k].name, .int .i64 l[k].shift] 77)).drew := ⟨(Hb.out.trans ((Below.refl _ _).alloc (by omega) _)).drew, fun p hp => by
          simp only [List.mem_cons, List.not_mem_nil, or_false] at hp
          rcases hp with rfl | rfl <;> refine ⟨?_, ?_⟩ <;> first | (simp [go_sem]; done) | (simp [go_sem]; omega) | (exact (((Below.refl wr.heap.size wr).alloc (Nat.le_refl _) _).drew.cell hgw).trans (by assumption))⟩
        go_wp2_with fail
        refine wp_region_held_drew (S := (fun w' => w'.cell? ⟨wr.heap.size, 0, none⟩ = some (.string l[k].name) ∧ w'.cell? ⟨wr.heap.size, 1, none⟩ = some (.int .i64 l[k].shift))) (by kernel_rfl) ?_ (fun hHeld => ?_)
        · (try dsimp only); go_keep
        refine wpAnyH_take (i := 0) (v := ?_) rfl (by kernel_rfl) (by kernel_rfl) (by kernel_rfl) (fun _ _ _ h => h) (Or.inl ⟨by rfl, ?_⟩) (by assumption) ?_
        rotate_left
        · (intro w hSw; (try dsimp only at hSw); go_simp) <;> with_reducible rfl
        try simp only [Act.put, List.getElem_toArray, List.getElem_cons_succ, List.getElem_cons_zero, List.setIfInBounds_toArray, List.set_cons_zero, List.set_cons_succ]
        refine wpAnyH_take (i := 1) (v := ?_) rfl (by kernel_rfl) (by kernel_rfl) (by kernel_rfl) (fun _ _ _ h => h) (Or.inl ⟨by rfl, ?_⟩) (by assumption) ?_
        rotate_left
        · (intro w hSw; (try dsimp only at hSw); go_simp) <;> with_reducible rfl
        try simp only [Act.put, List.getElem_toArray, List.getElem_cons_succ, List.getElem_cons_zero, List.setIfInBounds_toArray, List.set_cons_zero, List.set_cons_succ]
        refine wpAnyH_ready (rs := [2]) (by kernel_rfl) (by simp) ?_
        refine AllReadyH.cons rfl (fun K hK => ?_) AllReadyH.nil
        go_simp
        (go_at_call 103; refine (isObserver_bit h0 _ (by assumption)).mono ?_; rintro e w1 ⟨rfl, hb1⟩; have Kn := Kp.below (by assumption) hb1; have dd0 := Kn.at0; have dd1 := Kn.at1)
        try go_wp2_with fail
        refine hK.out _ _ ?_ (fun hHeld => ?_)
        · (try dsimp only); go_keep
        clear hK K
        try simp only [Act.put, List.getElem_toArray, List.getElem_cons_succ, List.getElem_cons_zero, List.setIfInBounds_toArray, List.set_cons_zero, List.set_cons_succ]
        refine wpAnyH_take (i := 3) (v := ?_) rfl (by kernel_rfl) (by kernel_rfl) (by kernel_rfl) (fun _ _ _ h => h) (Or.inl ⟨by rfl, ?_⟩) (by assumption) ?_
        rotate_left
        · (intro w hSw; (try dsimp only at hSw); go_simp) <;> with_reducible rfl
        try simp only [Act.put, List.getElem_toArray, List.getElem_cons_succ, List.getElem_cons_zero, List.setIfInBounds_toArray, List.set_cons_zero, List.set_cons_succ]
        refine wpAnyH_take (i := 4) (v := ?_) rfl (by kernel_rfl) (by kernel_rfl) (by kernel_rfl) (fun _ _ _ h => h) (Or.inl ⟨by rfl, ?_⟩) (by assumption) ?_
        rotate_left
        · (intro w hSw; (try dsimp only at hSw); go_simp) <;> with_reducible rfl
        try simp only [Act.put, List.getElem_toArray, List.getElem_cons_succ, List.getElem_cons_zero, List.setIfInBounds_toArray, List.set_cons_zero, List.set_cons_succ]
        refine wpAnyH_take (i := 5) (v := undef) rfl (by kernel_rfl) (by kernel_rfl) (by kernel_rfl) (fun _ _ _ h => h) (Or.inr ⟨by rfl, rfl⟩) (by assumption) ?_
        try simp only [Act.put, List.getElem_toArray, List.getElem_cons_succ, List.getElem_cons_zero, List.setIfInBounds_toArray, List.set_cons_zero, List.set_cons_succ]
        refine wpAnyH_take (i := 6) (v := undef) rfl (by kernel_rfl) (by kernel_rfl) (by kernel_rfl) (fun _ _ _ h => h) (Or.inr ⟨by rfl, rfl⟩) (by assumption) ?_
        try simp only [Act.put, List.getElem_toArray, List.getElem_cons_succ, List.getElem_cons_zero, List.setIfInBounds_toArray, List.set_cons_zero, List.set_cons_succ]
        refine wpAnyH_take (i := 7) (v := undef) rfl (by kernel_rfl) (by kernel_rfl) (by kernel_rfl) (fun _ _ _ h => h) (Or.inr ⟨by rfl, rfl⟩) (by assumption) ?_
        try simp only [Act.put, List.getElem_toArray, List.getElem_cons_succ, List.getElem_cons_zero, List.setIfInBounds_toArray, List.set_cons_zero, List.set_cons_succ]
        refine wpAnyH_take (i := 8) (v := undef) rfl (by kernel_rfl) (by kernel_rfl) (by kernel_rfl) (fun _ _ _ h => h) (Or.inr ⟨by rfl, rfl⟩) (by assumption) ?_
        try simp only [Act.put, List.getElem_toArray, List.getElem_cons_succ, List.getElem_cons_zero, List.setIfInBounds_toArray, List.set_cons_zero, List.set_cons_succ]
        refine wpAnyH_take (i := 9) (v := undef) rfl (by kernel_rfl) (by kernel_rfl) (by kernel_rfl) (fun _ _ _ h => h) (Or.inr ⟨by rfl, rfl⟩) (by assumption) ?_
        try simp only [Act.put, List.getElem_toArray, List.getElem_cons_succ, List.getElem_cons_zero, List.setIfInBounds_toArray, List.set_cons_zero, List.set_cons_succ]
        refine wpAnyH_take (i := 10) (v := undef) rfl (by kernel_rfl) (by kernel_rfl) (by kernel_rfl) (fun _ _ _ h => h) (Or.inr ⟨by rfl, rfl⟩) (by assumption) ?_
        try simp only [Act.put, List.getElem_toArray, List.getElem_cons_succ, List.getElem_cons_zero, List.setIfInBounds_toArray, List.set_cons_zero, List.set_cons_succ]
        refine wpAnyH_take (i := 11) (v := undef) rfl (by kernel_rfl) (by kernel_rfl) (by kernel_rfl) (fun _ _ _ h => h) (Or.inr ⟨by rfl, rfl⟩) (by assumption) ?_
        try simp only [Act.put, List.getElem_toArray, List.getElem_cons_succ, List.getElem_cons_zero, List.setIfInBounds_toArray, List.set_cons_zero, List.set_cons_succ]
        refine wpAnyH_take (i := 12) (v := undef) rfl (by kernel_rfl) (by kernel_rfl) (by kernel_rfl) (fun _ _ _ h => h) (Or.inr ⟨by rfl, rfl⟩) (by assumption) ?_
        try simp only [Act.put, List.getElem_toArray, List.getElem_cons_succ, List.getElem_cons_zero, List.setIfInBounds_toArray, List.set_cons_zero, List.set_cons_succ]
        refine wpAnyH_take (i := 13) (v := undef) rfl (by kernel_rfl) (by kernel_rfl) (by kernel_rfl) (fun _ _ _ h => h) (Or.inr ⟨by rfl, rfl⟩) (by assumption) ?_
        try simp only [Act.put, List.getElem_toArray, List.getElem_cons_succ, List.getElem_cons_zero, List.setIfInBounds_toArray, List.set_cons_zero, List.set_cons_succ]
        refine wpAnyH_take (i := 14) (v := undef) rfl (by kernel_rfl) (by kernel_rfl) (by kernel_rfl) (fun _ _ _ h => h) (Or.inr ⟨by rfl, rfl⟩) (by assumption) ?_
        try simp only [Act.put, List.getElem_toArray, List.getElem_cons_succ, List.getElem_cons_zero, List.setIfInBounds_toArray, List.set_cons_zero, List.set_cons_succ]
        refine wpAnyH_take (i := 15) (v := undef) rfl (by kernel_rfl) (by kernel_rfl) (by kernel_rfl) (fun _ _ _ h => h) (Or.inr ⟨by rfl, rfl⟩) (by assumption) ?_
        try simp only [Act.put, List.getElem_toArray, List.getElem_cons_succ, List.getElem_cons_zero, List.setIfInBounds_toArray, List.set_cons_zero, List.set_cons_succ]
        refine wpAnyH_take (i := 16) (v := undef) rfl (by kernel_rfl) (by kernel_rfl) (by kernel_rfl) (fun _ _ _ h => h) (Or.inr ⟨by rfl, rfl⟩) (by assumption) ?_
        try simp only [Act.put, List.getElem_toArray, List.getElem_cons_succ, List.getElem_cons_zero, List.setIfInBounds_toArray, List.set_cons_zero, List.set_cons_succ]
        refine wpAnyH_take (i := 17) (v := undef) rfl (by kernel_rfl) (by kernel_rfl) (by kernel_rfl) (fun _ _ _ h => h) (Or.inr ⟨by rfl, rfl⟩) (by assumption) ?_
        try simp only [Act.put, List.getElem_toArray, List.getElem_cons_succ, List.getElem_cons_zero, List.setIfInBounds_toArray, List.set_cons_zero, List.set_cons_succ]
        refine wpAnyH_take (i := 18) (v := undef) rfl (by kernel_rfl) (by kernel_rfl) (by kernel_rfl) (fun _ _ _ h => h) (Or.inr ⟨by rfl, rfl⟩) (by assumption) ?_
        try simp only [Act.put, List.getElem_toArray, List.getElem_cons_succ, List.getElem_cons_zero, List.setIfInBounds_toArray, List.set_cons_zero, List.set_cons_succ]
        refine wpAnyH_take (i := 19) (v := undef) rfl (by kernel_rfl) (by kernel_rfl) (by kernel_rfl) (fun _ _ _ h => h) (Or.inr ⟨by rfl, rfl⟩) (by assumption) ?_
        try simp only [Act.put, List.getElem_toArray, List.getElem_cons_succ, List.getElem_cons_zero, List.setIfInBounds_toArray, List.set_cons_zero, List.set_cons_succ]
        refine wpAnyH_take (i := 20) (v := ?_) rfl (by kernel_rfl) (by kernel_rfl) (by kernel_rfl) (fun _ _ _ h => h) (Or.inl ⟨by rfl, ?_⟩) (by assumption) ?_
        rotate_left
        · (intro w hSw; (try dsimp only at hSw); go_simp) <;> with_reducible rfl
        try simp only [Act.put, List.getElem_toArray, List.getElem_cons_succ, List.getElem_cons_zero, List.setIfInBounds_toArray, List.set_cons_zero, List.set_cons_succ]
        refine wpAnyH_done (by kernel_rfl) ?_ _
        all_goals go_wp2
        all_goals go_ret
        all_goals have Kn : Kp w [(⟨wr.heap.size, 0, none⟩, .string l[k].name), (⟨wr.heap.size, 1, none⟩, .int .i64 l[k].shift)] w1 := by assumption
        all_goals exact ⟨ret_bool (valid_bad hlt (step_bad hlt (obs_at hlt h0))).symm, Kn.b⟩
      · cases k with
        | zero =>
          have hst := hide (show stepOk obsOk obsLt l 0 = true from (step_zero hlt).trans (obs_at hlt h0))
          have f0 : wr.cell? ⟨g, off, none⟩ = some (.string l[0].name) := f0
          have f1 : wr.cell? ⟨g, off + 1, none⟩ = some (.int .i64 l[0].shift) := f1
          clear hc hr hb
          have K0 : Kp w [(⟨wr.heap.size, 0, none⟩, .string l[0].name), (⟨wr.heap.size, 1, none⟩, .int .i64 l[0].shift)] (wr.alloc (.cells #[.string l[0].name, .int .i64 l[0].shift] 77)).drew := ⟨(Hb.out.trans ((Below.refl _ _).alloc (by omega) _)).drew, fun p hp => by
            simp only [List.mem_cons, List.not_mem_nil, or_false] at hp
            rcases hp with rfl | rfl <;> refine ⟨?_, ?_⟩ <;> first | (simp [go_sem]; done) | (simp [go_sem]; omega) | (exact (((Below.refl wr.heap.size wr).alloc (Nat.le_refl _) _).drew.cell hgw).trans (by assumption))⟩
          go_wp2_with fail
          refine wp_region_held_drew (S := (fun w' => w'.cell? ⟨wr.heap.size, 0, none⟩ = some (.string l[0].name) ∧ w'.cell? ⟨wr.heap.size, 1, none⟩ = some (.int .i64 l[0].shift))) (by kernel_rfl) ?_ (fun hHeld => ?_)
          · (try dsimp only); go_keep
          refine wpAnyH_take (i := 0) (v := ?_) rfl (by kernel_rfl) (by kernel_rfl) (by kernel_rfl) (fun _ _ _ h => h) (Or.inl ⟨by rfl, ?_⟩) (by assumption) ?_
          rotate_left
          · (intro w hSw; (try dsimp only at hSw); go_simp) <;> with_reducible rfl
          try simp only [Act.put, List.getElem_toArray, List.getElem_cons_succ, List.getElem_cons_zero, List.setIfInBounds_toArray, List.set_cons_zero, List.set_cons_succ]
          refine wpAnyH_take (i := 1) (v := ?_) rfl (by kernel_rfl) (by kernel_rfl) (by kernel_rfl) (fun _ _ _ h => h) (Or.inl ⟨by rfl, ?_⟩) (by assumption) ?_
          rotate_left
          · (intro w hSw; (try dsimp only at hSw); go_simp) <;> with_reducible rfl
          try simp only [Act.put, List.getElem_toArray, List.getElem_cons_succ, List.getElem_cons_zero, List.setIfInBounds_toArray, List.set_cons_zero, List.set_cons_succ]
          refine wpAnyH_ready (rs := [2]) (by kernel_rfl) (by simp) ?_
          refine AllReadyH.cons rfl (fun K hK => ?_) AllReadyH.nil
          go_simp
          (go_at_call 103; refine (isObserver_bit h0 _ (by assumption)).mono ?_; rintro e w1 ⟨rfl, hb1⟩; have Kn := Kp.below (by assumption) hb1; have dd0 := Kn.at0; have dd1 := Kn.at1)
          try go_wp2_with fail
          refine hK.out _ _ ?_ (fun hHeld => ?_)
          · (try dsimp only); go_keep
          clear hK K
          try simp only [Act.put, List.getElem_toArray, List.getElem_cons_succ, List.getElem_cons_zero, List.setIfInBounds_toArray, List.set_cons_zero, List.set_cons_succ]
          refine wpAnyH_take (i := 3) (v := ?_) rfl (by kernel_rfl) (by kernel_rfl) (by kernel_rfl) (fun _ _ _ h => h) (Or.inl ⟨by rfl, ?_⟩) (by assumption) ?_
          rotate_left
          · (intro w hSw; (try dsimp only at hSw); go_simp) <;> with_reducible rfl
          try simp only [Act.put, List.getElem_toArray, List.getElem_cons_succ, List.getElem_cons_zero, List.setIfInBounds_toArray, List.set_cons_zero, List.set_cons_succ]
          refine wpAnyH_take (i := 4) (v := ?_) rfl (by kernel_rfl) (by kernel_rfl) (by kernel_rfl) (fun _ _ _ h => h) (Or.inl ⟨by rfl, ?_⟩) (by assumption) ?_
          rotate_left
          · (intro w hSw; (try dsimp only at hSw); go_simp) <;> with_reducible rfl
          try simp only [Act.put, List.getElem_toArray, List.getElem_cons_succ, List.getElem_cons_zero, List.setIfInBounds_toArray, List.set_cons_zero, List.set_cons_succ]
          refine wpAnyH_take (i := 5) (v := ?_) rfl (by kernel_rfl) (by kernel_rfl) (by kernel_rfl) (fun _ _ _ h => h) (Or.inl ⟨by rfl, ?_⟩) (by assumption) ?_
          rotate_left
          · (intro w hSw; (try dsimp only at hSw); go_simp) <;> with_reducible rfl
          try simp only [Act.put, List.getElem_toArray, List.getElem_cons_succ, List.getElem_cons_zero, List.setIfInBounds_toArray, List.set_cons_zero, List.set_cons_succ]
          refine wpAnyH_take (i := 6) (v := ?_) rfl (by kernel_rfl) (by kernel_rfl) (by kernel_rfl) (fun _ _ _ h => h) (Or.inl ⟨by rfl, ?_⟩) (by assumption) ?_
          rotate_left
          · (intro w hSw; (try dsimp only at hSw); go_simp) <;> with_reducible rfl
          try simp only [Act.put, List.getElem_toArray, List.getElem_cons_succ, List.getElem_cons_zero, List.setIfInBounds_toArray, List.set_cons_zero, List.set_cons_succ]
          refine wpAnyH_take (i := 7) (v := ?_) rfl (by kernel_rfl) (by kernel_rfl) (by kernel_rfl) (fun _ _ _ h => h) (Or.inl ⟨by rfl, ?_⟩) (by assumption) ?_
          rotate_left
          · (intro w hSw; (try dsimp only at hSw); go_simp) <;> with_reducible rfl
          try simp only [Act.put, List.getElem_toArray, List.getElem_cons_succ, List.getElem_cons_zero, List.setIfInBounds_toArray, List.set_cons_zero, List.set_cons_succ]
          refine wpAnyH_take (i := 8) (v := undef) rfl (by kernel_rfl) (by kernel_rfl) (by kernel_rfl) (fun _ _ _ h => h) (Or.inr ⟨by rfl, rfl⟩) (by assumption) ?_
          try simp only [Act.put, List.getElem_toArray, List.getElem_cons_succ, List.getElem_cons_zero, List.setIfInBounds_toArray, List.set_cons_zero, List.set_cons_succ]
          refine wpAnyH_take (i := 9) (v := undef) rfl (by kernel_rfl) (by kernel_rfl) (by kernel_rfl) (fun _ _ _ h => h) (Or.inr ⟨by rfl, rfl⟩) (by assumption) ?_
          try simp only [Act.put, List.getElem_toArray, List.getElem_cons_succ, List.getElem_cons_zero, List.setIfInBounds_toArray, List.set_cons_zero, List.set_cons_succ]
          refine wpAnyH_take (i := 10) (v := undef) rfl (by kernel_rfl) (by kernel_rfl) (by kernel_rfl) (fun _ _ _ h => h) (Or.inr ⟨by rfl, rfl⟩) (by assumption) ?_
          try simp only [Act.put, List.getElem_toArray, List.getElem_cons_succ, List.getElem_cons_zero, List.setIfInBounds_toArray, List.set_cons_zero, List.set_cons_succ]
          refine wpAnyH_take (i := 11) (v := undef) rfl (by kernel_rfl) (by kernel_rfl) (by kernel_rfl) (fun _ _ _ h => h) (Or.inr ⟨by rfl, rfl⟩) (by assumption) ?_
          try simp only [Act.put, List.getElem_toArray, List.getElem_cons_succ, List.getElem_cons_zero, List.setIfInBounds_toArray, List.set_cons_zero, List.set_cons_succ]
          refine wpAnyH_take (i := 12) (v := undef) rfl (by kernel_rfl) (by kernel_rfl) (by kernel_rfl) (fun _ _ _ h => h) (Or.inr ⟨by rfl, rfl⟩) (by assumption) ?_
          try simp only [Act.put, List.getElem_toArray, List.getElem_cons_succ, List.getElem_cons_zero, List.setIfInBounds_toArray, List.set_cons_zero, List.set_cons_succ]
          refine wpAnyH_take (i := 13) (v := undef) rfl (by kernel_rfl) (by kernel_rfl) (by kernel_rfl) (fun _ _ _ h => h) (Or.inr ⟨by rfl, rfl⟩) (by assumption) ?_
          try simp only [Act.put, List.getElem_toArray, List.getElem_cons_succ, List.getElem_cons_zero, List.setIfInBounds_toArray, List.set_cons_zero, List.set_cons_succ]
          refine wpAnyH_take (i := 14) (v := undef) rfl (by kernel_rfl) (by kernel_rfl) (by kernel_rfl) (fun _ _ _ h => h) (Or.inr ⟨by rfl, rfl⟩) (by assumption) ?_
          try simp only [Act.put, List.getElem_toArray, List.getElem_cons_succ, List.getElem_cons_zero, List.setIfInBounds_toArray, List.set_cons_zero, List.set_cons_succ]
          refine wpAnyH_take (i := 15) (v := undef) rfl (by kernel_rfl) (by kernel_rfl) (by kernel_rfl) (fun _ _ _ h => h) (Or.inr ⟨by rfl, rfl⟩) (by assumption) ?_
          try simp only [Act.put, List.getElem_toArray, List.getElem_cons_succ, List.getElem_cons_zero, List.setIfInBounds_toArray, List.set_cons_zero, List.set_cons_succ]
          refine wpAnyH_take (i := 16) (v := undef) rfl (by kernel_rfl) (by kernel_rfl) (by kernel_rfl) (fun _ _ _ h => h) (Or.inr ⟨by rfl, rfl⟩) (by assumption) ?_
          try simp only [Act.put, List.getElem_toArray, List.getElem_cons_succ, List.getElem_cons_zero, List.setIfInBounds_toArray, List.set_cons_zero, List.set_cons_succ]
          refine wpAnyH_take (i := 17) (v := undef) rfl (by kernel_rfl) (by kernel_rfl) (by kernel_rfl) (fun _ _ _ h => h) (Or.inr ⟨by rfl, rfl⟩) (by assumption) ?_
          try simp only [Act.put, List.getElem_toArray, List.getElem_cons_succ, List.getElem_cons_zero, List.setIfInBounds_toArray, List.set_cons_zero, List.set_cons_succ]
          refine wpAnyH_take (i := 18) (v := undef) rfl (by kernel_rfl) (by kernel_rfl) (by kernel_rfl) (fun _ _ _ h => h) (Or.inr ⟨by rfl, rfl⟩) (by assumption) ?_
          try simp only [Act.put, List.getElem_toArray, List.getElem_cons_succ, List.getElem_cons_zero, List.setIfInBounds_toArray, List.set_cons_zero, List.set_cons_succ]
          refine wpAnyH_take (i := 19) (v := ?_) rfl (by kernel_rfl) (by kernel_rfl) (by kernel_rfl) (fun _ _ _ h => h) (Or.inl ⟨by rfl, ?_⟩) (by assumption) ?_
          rotate_left
          · (intro w hSw; (try dsimp only at hSw); go_simp) <;> with_reducible rfl
          try simp only [Act.put, List.getElem_toArray, List.getElem_cons_succ, List.getElem_cons_zero, List.setIfInBounds_toArray, List.set_cons_zero, List.set_cons_succ]
          refine wpAnyH_take (i := 20) (v := ?_) rfl (by kernel_rfl) (by kernel_rfl) (by kernel_rfl) (fun _ _ _ h => h) (Or.inl ⟨by rfl, ?_⟩) (by assumption) ?_
          rotate_left
          · (intro w hSw; (try dsimp only at hSw); go_simp) <;> with_reducible rfl
          try simp only [Act.put, List.getElem_toArray, List.getElem_cons_succ, List.getElem_cons_zero, List.setIfInBounds_toArray, List.set_cons_zero, List.set_cons_succ]
          refine wpAnyH_done (by kernel_rfl) ?_ _
          all_goals
            have Kn : Kp w [(⟨wr.heap.size, 0, none⟩, .string l[0].name), (⟨wr.heap.size, 1, none⟩, .int .i64 l[0].shift)] w1 := by assumption
            go_wp2
            go_roundw
            case rel => exact ⟨1, by omega, by go_num, Kn.b, steps_next hs.out hst.out⟩
            case measure => simp [intOf]; omega
        | succ j =>
          have hlj : j < l.length := by omega
          obtain ⟨g', off', he, hg', hc'⟩ := hr.elem ObsT.cells_len hlj
          injection he with he
          injection he with he1 he2 _
          subst he1 he2
          have h1 : wr.cell? ⟨g, off + j * 2, none⟩ = some (.string l[j].name) := (hb.cell (p := ⟨g, off + j * 2, none⟩) hg').trans (hc' 0 _ rfl)
          have h2 : wr.cell? ⟨g, off + j * 2 + 1, none⟩ = some (.int .i64 l[j].shift) := (hb.cell (p := ⟨g, off + j * 2 + 1, none⟩) hg').trans (hc' 1 _ rfl)
          have i1 : (0 : Int) ≤ (j : Int) := by omega
          have i2 : (j : Int) < (l.length : Int) := by omega
          have hwj : IntKind.i64.wrap (j : Int) = j := by rw [IntKind.wrap_i64]; omega
          clear hc hc' hr hb
          have K0 : Kp w [(⟨wr.heap.size, 0, none⟩, .string l[j + 1].name), (⟨wr.heap.size, 1, none⟩, .int .i64 l[j + 1].shift), (⟨g, off + j * 2, none⟩, .string l[j].name), (⟨g, off + j * 2 + 1, none⟩, .int .i64 l[j].shift)] (wr.alloc (.cells #[.string l[j + 1].name, .int .i64 l[j + 1].shift] 77)).drew := ⟨(Hb.out.trans ((Below.refl _ _).alloc (by omega) _)).drew, fun p hp => by
            simp only [List.mem_cons, List.not_mem_nil, or_false] at hp
            rcases hp with rfl | rfl | rfl | rfl <;> refine ⟨?_, ?_⟩ <;> first | (simp [go_sem]; done) | (simp [go_sem]; omega) | (exact (((Below.refl wr.heap.size wr).alloc (Nat.le_refl _) _).drew.cell hgw).trans (by assumption))⟩
          cases hq : Op.bytesLess l[j].name.toList l[j + 1].name.toList
          · have hst := hide (show stepOk obsOk obsLt l (j + 1) = false from (step_succ hlt).trans (by rw [obs_at hlt h0]; exact hq))
            go_wp2_with fail
            go_region_held3 (fun w' => w'.cell? ⟨wr.heap.size, 0, none⟩ = some (.string l[j + 1].name) ∧ w'.cell? ⟨wr.heap.size, 1, none⟩ = some (.int .i64 l[j + 1].shift) ∧ w'.cell? ⟨g, off + j * 2, none⟩ = some (.string l[j].name) ∧ w'.cell? ⟨g, off + j * 2 + 1, none⟩ = some (.int .i64 l[j].shift)) (go_keep) (first | (go_at_call 103; refine (isObserver_bit h0 _ (by assumption)).mono ?_; rintro e w1 ⟨rfl, hb1⟩; have Kn := Kp.below (by assumption) hb1; have dd0 := Kn.at0; have dd1 := Kn.at1; have dd2 := Kn.at2; have dd3 := Kn.at3) | (go_at_call 105; refine (observerName_any _ _ _).mono ?_; rintro e w1 ⟨rfl, hb1⟩; have Kn := Kp.below (by assumption) hb1; have dd0 := Kn.at0; have dd1 := Kn.at1; have dd2 := Kn.at2; have dd3 := Kn.at3))
            go_wp2
            go_ret
            have Kn : Kp w [(⟨wr.heap.size, 0, none⟩, .string l[j + 1].name), (⟨wr.heap.size, 1, none⟩, .int .i64 l[j + 1].shift), (⟨g, off + j * 2, none⟩, .string l[j].name), (⟨g, off + j * 2 + 1, none⟩, .int .i64 l[j].shift)] w1 := by assumption
            exact ⟨ret_bool (valid_bad hlt hst.out).symm, Kn.b⟩
          · have hst := hide (show stepOk obsOk obsLt l (j + 1) = true from (step_succ hlt).trans (by rw [obs_at hlt h0]; exact hq))
            go_wp2_with fail
            go_region_held3 (fun w' => w'.cell? ⟨wr.heap.size, 0, none⟩ = some (.string l[j + 1].name) ∧ w'.cell? ⟨wr.heap.size, 1, none⟩ = some (.int .i64 l[j + 1].shift) ∧ w'.cell? ⟨g, off + j * 2, none⟩ = some (.string l[j].name) ∧ w'.cell? ⟨g, off + j * 2 + 1, none⟩ = some (.int .i64 l[j].shift)) (go_keep) (first | (go_at_call 103; refine (isObserver_bit h0 _ (by assumption)).mono ?_; rintro e w1 ⟨rfl, hb1⟩; have Kn := Kp.below (by assumption) hb1; have dd0 := Kn.at0; have dd1 := Kn.at1; have dd2 := Kn.at2; have dd3 := Kn.at3) | (go_at_call 105; refine (observerName_any _ _ _).mono ?_; rintro e w1 ⟨rfl, hb1⟩; have Kn := Kp.below (by assumption) hb1; have dd0 := Kn.at0; have dd1 := Kn.at1; have dd2 := Kn.at2; have dd3 := Kn.at3))
            have Kn : Kp w [(⟨wr.heap.size, 0, none⟩, .string l[j + 1].name), (⟨wr.heap.size, 1, none⟩, .int .i64 l[j + 1].shift), (⟨g, off + j * 2, none⟩, .string l[j].name), (⟨g, off + j * 2 + 1, none⟩, .int .i64 l[j].shift)] w1 := by assumption
            go_wp2
            go_roundw
            case rel => exact ⟨j + 1 + 1, by omega, by go_num, Kn.b, steps_next hs.out hst.out⟩
            case measure => simp [intOf]; omega
    · obtain rfl : k = l.length := by omega
      clear hr hb
      go_wp2
      go_ret
      exact ⟨ret_bool (by rw [valid_good hs.out]; simp; omega), Hb.out⟩
theorem impl_ValidObservers_any (A : Option Addr) (c : Nat) (l : List ObsT) (w : World) (hn : l.length ≤ 1048576) (hok : ∀ x ∈ l, x.ok) (hr : Rd w w.heap.size 2 A l.length (l.flatMap ObsT.cells)) :
    Calls Try.prog 66 #[.slice A l.length c] w fun e w' => e = .returned (.bool (validB obsOk obsLt 40 l)) ∧ Below w.heap.size w w' := by
  have HR := hide hr
  have HO := hide hok
  clear hr hok
  go_enter Try.func66, Try.ntmps66
  go_wp2_with fail
  refine (rising_Observer_any A c l _ hn HO.out HR.out).mono ?_
  rintro e w' ⟨rfl, hb⟩
  go_wp2
  go_ret
  exact ⟨rfl, hb⟩
theorem spec_l05One_bit {name shift} {b : Bool} (h : obsB name shift = b) (w : World) (gs : name.size ≤ maxLen) (g o1 : Nat) (k0 : w.cell? ⟨g, o1, none⟩ = some (.string name)) (k1 : w.cell? ⟨g, o1 + 1, none⟩ = some (.int .i64 shift)) (N : Nat) : Calls Try.prog 102 #[.pointer (some ⟨g, o1, none⟩)] (w.drewN N) fun e w' => e = .returned (.bool b) ∧ ∃ m, w' = (w.drewN N).drewN m :=
  (h ▸ spec_l05One_any name shift (w.drewN N) gs g o1 k0 k1 : Calls Try.prog 102 #[.pointer (some ⟨g, o1, none⟩)] (w.drewN N) fun e w' => e = .returned (.bool b) ∧ w.drewN N = w').mono (fun e w' h => ⟨h.1, 0, by rw [← h.2]; rfl⟩)
set_option maxHeartbeats 2000000 in
theorem l05Ok_any (A : Option Addr) (c : Nat) (l : List ObsT) (w : World) (hn : l.length ≤ 1048576) (hok : ∀ x ∈ l, x.ok) (hr : Rd w w.heap.size 2 A l.length (l.flatMap ObsT.cells)) :
    Calls Try.prog 64 #[.slice A l.length c] w fun e w' => e = .returned (.bool (validB obsOk obsLt 40 l)) ∧ Below w.heap.size w w' := by
  have HO := hide hok
  clear hok
  go_enter Try.func64, Try.ntmps64
  go_wp2_with fail
  go_loopw [3] (fun i wr => ∃ k : Nat, k ≤ l.length ∧ i = .int .i64 k ∧ (∃ n, wr = w.drewN n) ∧ Hid (∀ j, j < k → stepOk obsOk obsLt l j = true)) (fun i _ => l.length - (intOf i).toNat)
  case atStart => exact ⟨0, by omega, rfl, ⟨0, rfl⟩, fun j hj => absurd hj (by omega)⟩
  case round =>
    obtain ⟨k, hk, rfl, ⟨n, rfl⟩, hs⟩ := hrel
    by_cases hlt : k < l.length
    · obtain ⟨g, off, rfl, hg, hc⟩ := hr.elem ObsT.cells_len hlt
      have f0 : w.cell? ⟨g, off + k * 2, none⟩ = some (.string l[k].name) := hc 0 _ rfl
      have f1 : w.cell? ⟨g, off + k * 2 + 1, none⟩ = some (.int .i64 l[k].shift) := hc 1 _ rfl
      have hsz : l[k].name.size ≤ maxLen := (HO.out l[k] (List.getElem_mem _)).1
      have i1 : (0 : Int) ≤ (k : Int) := by omega
      have i2 : (k : Int) < (l.length : Int) := by omega
      cases h0 : obsB l[k].name l[k].shift
      · have hq1 := hide (spec_l05One_bit h0 w hsz g _ f0 f1)
        clear hc hr
        go_wp2_with fail
        go_quiet ((go_at_call 102; with_reducible first | exact Calls.quiet_of (hq1.out _) | exact qadd_ex (hq1.out _)))
        go_wp2
        go_ret
        exact ⟨ret_bool (valid_bad hlt (step_bad hlt (obs_at hlt h0))).symm, (by repeat (first | exact Below.refl _ _ | assumption | refine Below.drew ?_ | refine below_drewN ?_ _ | refine Below.alloc ?_ (by first | omega | (simp; done) | (simp; omega)) _ | refine Below.setCell ?_ (by first | omega | (simp; done) | (simp; omega)) _ | refine Below.trans ?_ (Below.mono (by assumption) (by first | omega | (simp; done) | (simp; omega)))))⟩
      · cases k with
        | zero =>
          have hst := hide (show stepOk obsOk obsLt l 0 = true from (step_zero hlt).trans (obs_at hlt h0))
          have f0 : w.cell? ⟨g, off, none⟩ = some (.string l[0].name) := f0
          have f1 : w.cell? ⟨g, off + 1, none⟩ = some (.int .i64 l[0].shift) := f1
          have hq1 := hide (spec_l05One_bit h0 w hsz g _ f0 f1)
          clear hc hr
          go_wp2_with fail
          go_quiet ((go_at_call 102; with_reducible first | exact Calls.quiet_of (hq1.out _) | exact qadd_ex (hq1.out _)))
          go_wp2
          go_roundw
          case rel => exact ⟨1, by omega, by go_num, ⟨_, by first | rfl | exact World.drewN_drewN⟩, steps_next hs.out hst.out⟩
          case measure => simp [intOf]; omega
        | succ j =>
          have hlj : j < l.length := by omega
          obtain ⟨g', off', he, hg', hc'⟩ := hr.elem ObsT.cells_len hlj
          injection he with he
          injection he with he1 he2 _
          subst he1 he2
          have hj0 : w.cell? ⟨g, off + j * 2, none⟩ = some (.string l[j].name) := hc' 0 _ rfl
          have i3 : (0 : Int) ≤ (j : Int) := by omega
          have i4 : (j : Int) < (l.length : Int) := by omega
          have hq1 := hide (spec_l05One_bit h0 w hsz g _ f0 f1)
          have hwj : IntKind.i64.wrap (j : Int) = j := by rw [IntKind.wrap_i64]; omega
          clear hc hc' hr
          cases hq : Op.bytesLess l[j].name.toList l[j + 1].name.toList
          · have hst := hide (show stepOk obsOk obsLt l (j + 1) = false from (step_succ hlt).trans (by rw [obs_at hlt h0]; exact hq))
            go_wp2_with fail
            go_quiet ((go_at_call 102; with_reducible first | exact Calls.quiet_of (hq1.out _) | exact qadd_ex (hq1.out _)))
            go_wp2
            go_ret
            exact ⟨ret_bool (valid_bad hlt hst.out).symm, (by repeat (first | exact Below.refl _ _ | assumption | refine Below.drew ?_ | refine below_drewN ?_ _ | refine Below.alloc ?_ (by first | omega | (simp; done) | (simp; omega)) _ | refine Below.setCell ?_ (by first | omega | (simp; done) | (simp; omega)) _ | refine Below.trans ?_ (Below.mono (by assumption) (by first | omega | (simp; done) | (simp; omega)))))⟩
          · have hst := hide (show stepOk obsOk obsLt l (j + 1) = true from (step_succ hlt).trans (by rw [obs_at hlt h0]; exact hq))
            go_wp2_with fail
            go_quiet ((go_at_call 102; with_reducible first | exact Calls.quiet_of (hq1.out _) | exact qadd_ex (hq1.out _)))
            go_wp2
            go_roundw
            case rel => exact ⟨j + 1 + 1, by omega, by go_num, ⟨_, by first | rfl | exact World.drewN_drewN⟩, steps_next hs.out hst.out⟩
            case measure => simp [intOf]; omega
    · obtain rfl : k = l.length := by omega
      clear hr
      go_wp2
      go_ret
      exact ⟨ret_bool (by rw [valid_good hs.out]; by_cases h : l.length ≤ 40 <;> simp [h] <;> omega), (by repeat (first | exact Below.refl _ _ | assumption | refine Below.drew ?_ | refine below_drewN ?_ _ | refine Below.alloc ?_ (by first | omega | (simp; done) | (simp; omega)) _ | refine Below.setCell ?_ (by first | omega | (simp; done) | (simp; omega)) _ | refine Below.trans ?_ (Below.mono (by assumption) (by first | omega | (simp; done) | (simp; omega)))))⟩
theorem valObserver_end : True := trivial
end Go.Proofs.Ytldgelkgobocdaa
