/-
  Contracts of the loops that test lists of records: stars.
-/
import Derived.Test.YthgppfbepfgelaaOk
import Derived.Test.YthgppfbepfgelaaPlB
import Derived.Test.YthgppfbepfgelaaKp
import Derived.Deep.RegionHeld3
import Derived.Deep.RegionWith
import Derived.Deep.QuietTactic
import Derived.BigQuiet
import Derived.WalkLawsBesides
import Derived.Outline
namespace Go.Proofs.Ythgppfbepfgelaa
open Go.RowKit Pl
set_option linter.unusedVariables false
set_option linter.unusedSimpArgs false
theorem qadd_ex {P : Program} {f : FuncId} {args : Array Value} {w : World} {b n : Nat} {v : Value} (h : Calls P f args (w.drewN (b + n)) fun e w' => e = .returned v ∧ ∃ m, w' = (w.drewN (b + n)).drewN m) : Calls P f args (w.drewN (b + n)) fun e w' => e = .returned v ∧ ∃ m, w' = w.drewN (b + m) :=
  h.mono fun _ _ ⟨he, m, hm⟩ => ⟨he, n + m, by rw [hm, World.drewN_drewN, Nat.add_assoc]⟩
def starLt (x y : StarT) : Bool := Op.bytesLess x.name.toList y.name.toList
theorem star_at {l : List StarT} {k : Nat} (h : k < l.length) {b : Bool} (hb : starB l[k].name l[k].asc l[k].dec l[k].bri l[k].fai = b) : starOk (l[k]'h) = b := hb
theorem starName_any (name : ByteArray) (asc : Int) (dec : Int) (bri : Int) (fai : Int) (w : World) : Calls Try.prog 25 #[.agg #[.string name, .int .i64 asc, .int .i64 dec, .int .i64 bri, .int .i64 fai]] w fun e w' => e = .returned (.string name) ∧ Below w.heap.size w w' := by
  go_enter Try.func25, Try.ntmps25
  go_wp2
  go_ret
  exact ⟨rfl, (by repeat (first | exact Below.refl _ _ | assumption | refine Below.drew ?_ | refine below_drewN ?_ _ | refine Below.alloc ?_ (by first | omega | (simp; done) | (simp; omega)) _ | refine Below.setCell ?_ (by first | omega | (simp; done) | (simp; omega)) _ | refine Below.trans ?_ (Below.mono (by assumption) (by first | omega | (simp; done) | (simp; omega)))))⟩
theorem isStar_bit {name asc dec bri fai} {b : Bool} (h : starB name asc dec bri fai = b) (w : World) (gs : name.size ≤ maxLen) : Calls Try.prog 24 #[.agg #[.string name, .int .i64 asc, .int .i64 dec, .int .i64 bri, .int .i64 fai]] w fun e w' => e = .returned (.bool b) ∧ Below w.heap.size w w' := h ▸ impl_isStar_any name asc dec bri fai w gs
set_option maxHeartbeats 2000000 in
theorem rising_Star_any (A : Option Addr) (c : Nat) (l : List StarT) (w : World) (hn : l.length ≤ 1048576) (hok : ∀ x ∈ l, x.ok) (hr : Rd w w.heap.size 5 A l.length (l.flatMap StarT.cells)) :
    Calls Try.prog 23 #[.slice A l.length c, .int .i64 60, .func (.func 24) #[] #[], .func (.func 25) #[] #[]] w fun e w' => e = .returned (.bool (validB starOk starLt 60 l)) ∧ Below w.heap.size w w' := by
  have HO := hide hok
  clear hok
  by_cases hm : 60 < l.length
  · clear hr
    go_enter Try.func23, Try.ntmps23
    go_wp2
    go_ret
    exact ⟨ret_bool (valid_long hm).symm, (by repeat (first | exact Below.refl _ _ | assumption | refine Below.drew ?_ | refine below_drewN ?_ _ | refine Below.alloc ?_ (by first | omega | (simp; done) | (simp; omega)) _ | refine Below.setCell ?_ (by first | omega | (simp; done) | (simp; omega)) _ | refine Below.trans ?_ (Below.mono (by assumption) (by first | omega | (simp; done) | (simp; omega)))))⟩
  go_enter Try.func23, Try.ntmps23
  go_wp2_with fail
  go_loopw [17] (fun i wr => ∃ k : Nat, k ≤ l.length ∧ i = .int .i64 k ∧ Below w.heap.size w wr ∧ Hid (∀ j, j < k → stepOk starOk starLt l j = true)) (fun i _ => l.length - (intOf i).toNat)
  case atStart => exact ⟨0, by omega, rfl, (by repeat (first | exact Below.refl _ _ | assumption | refine Below.drew ?_ | refine below_drewN ?_ _ | refine Below.alloc ?_ (by first | omega | (simp; done) | (simp; omega)) _ | refine Below.setCell ?_ (by first | omega | (simp; done) | (simp; omega)) _ | refine Below.trans ?_ (Below.mono (by assumption) (by first | omega | (simp; done) | (simp; omega))))), fun j hj => absurd hj (by omega)⟩
  case round =>
    obtain ⟨k, hk, rfl, hb, hs⟩ := hrel
    have Hb := hide hb
    by_cases hlt : k < l.length
    · obtain ⟨g, off, rfl, hg, hc⟩ := hr.elem StarT.cells_len hlt
      have f0 : wr.cell? ⟨g, off + k * 5, none⟩ = some (.string l[k].name) := (hb.cell (p := ⟨g, off + k * 5, none⟩) hg).trans (hc 0 _ rfl)
      have f1 : wr.cell? ⟨g, off + k * 5 + 1, none⟩ = some (.int .i64 l[k].asc) := (hb.cell (p := ⟨g, off + k * 5 + 1, none⟩) hg).trans (hc 1 _ rfl)
      have f2 : wr.cell? ⟨g, off + k * 5 + 2, none⟩ = some (.int .i64 l[k].dec) := (hb.cell (p := ⟨g, off + k * 5 + 2, none⟩) hg).trans (hc 2 _ rfl)
      have f3 : wr.cell? ⟨g, off + k * 5 + 3, none⟩ = some (.int .i64 l[k].bri) := (hb.cell (p := ⟨g, off + k * 5 + 3, none⟩) hg).trans (hc 3 _ rfl)
      have f4 : wr.cell? ⟨g, off + k * 5 + 4, none⟩ = some (.int .i64 l[k].fai) := (hb.cell (p := ⟨g, off + k * 5 + 4, none⟩) hg).trans (hc 4 _ rfl)
      have hsz : l[k].name.size ≤ maxLen := (HO.out l[k] (List.getElem_mem _)).1
      have hgw : g < wr.heap.size := by have := hb.size; omega
      have hww : w.heap.size ≤ wr.heap.size := hb.size
      cases h0 : starB l[k].name l[k].asc l[k].dec l[k].bri l[k].fai
      · clear hc hr hb
        have K0 : Kp w [(⟨wr.heap.size, 0, none⟩, .string l[k].name), (⟨wr.heap.size, 1, none⟩, .int .i64 l[k].asc), (⟨wr.heap.size, 2, none⟩, .int .i64 l[k].dec), (⟨wr.heap.size, 3, none⟩, .int .i64 l[k].bri), (⟨wr.heap.size, 4, none⟩, .int .i64 l[k].fai)] (wr.alloc (.cells #[.string l[k].name, .int .i64 l[k].asc, .int .i64 l[k].dec, .int .i64 l[k].bri, .int .i64 l[k].fai] 38)).drew := ⟨(Hb.out.trans ((Below.refl _ _).alloc (by omega) _)).drew, fun p hp => by
          simp only [List.mem_cons, List.not_mem_nil, or_false] at hp
          rcases hp with rfl | rfl | rfl | rfl | rfl <;> refine ⟨?_, ?_⟩ <;> first | (simp [go_sem]; done) | (simp [go_sem]; omega) | (exact (((Below.refl wr.heap.size wr).alloc (Nat.le_refl _) _).drew.cell hgw).trans (by assumption))⟩
        go_wp2_with fail
        refine wp_region_held_drew (S := (fun w' => w'.cell? ⟨wr.heap.size, 0, none⟩ = some (.string l[k].name) ∧ w'.cell? ⟨wr.heap.size, 1, none⟩ = some (.int .i64 l[k].asc) ∧ w'.cell? ⟨wr.heap.size, 2, none⟩ = some (.int .i64 l[k].dec) ∧ w'.cell? ⟨wr.heap.size, 3, none⟩ = some (.int .i64 l[k].bri) ∧ w'.cell? ⟨wr.heap.size, 4, none⟩ = some (.int .i64 l[k].fai))) (by kernel_rfl) ?_ (fun hHeld => ?_)
        · (try dsimp only); go_keep
        refine wpAnyH_take (i := 0) (v := ?_) rfl (by kernel_rfl) (by kernel_rfl) (by kernel_rfl) (fun _ _ _ h => h) (Or.inl ⟨by rfl, ?_⟩) (by assumption) ?_
        rotate_left
        · (intro w hSw; (try dsimp only at hSw); go_simp) <;> with_reducible rfl
        try simp only [Act.put, List.getElem_toArray, List.getElem_cons_succ, List.getElem_cons_zero, List.setIfInBounds_toArray, List.set_cons_zero, List.set_cons_succ]
        refine wpAnyH_take (i := 1) (v := ?_) rfl (by kernel_rfl) (by kernel_rfl) (by kernel_rfl) (fun _ _ _ h => h) (Or.inl ⟨by rfl, ?_⟩) (by assumption) ?_
        rotate_left
        · (intro w hSw; (try dsimp only at hSw); go_simp) <;> with_reducible rfl
        try simp only [Act.put, List.getElem_toArray, List.getElem_cons_succ, List.getElem_cons_zero, List.setIfInBounds_toArray, List.set_cons_zero, List.set_cons_succ]
        refine wpAnyH_ready (rs := [2]) (by kernel_rfl) (by simp) ?_
        refine AllReadyH.cons rfl (fun K hK => ?_) AllReadyH.nil
        go_simp
        (go_at_call 24; refine (isStar_bit h0 _ (by assumption)).mono ?_; rintro e w1 ⟨rfl, hb1⟩; have Kn := Kp.below (by assumption) hb1; have dd0 := Kn.at0; have dd1 := Kn.at1; have dd2 := Kn.at2; have dd3 := Kn.at3; have dd4 := Kn.at4)
        try go_wp2_with fail
        refine hK.out _ _ ?_ (fun hHeld => ?_)
        · (try dsimp only); go_keep
        clear hK K
        try simp only [Act.put, List.getElem_toArray, List.getElem_cons_succ, List.getElem_cons_zero, List.setIfInBounds_toArray, List.set_cons_zero, List.set_cons_succ]
        refine wpAnyH_take (i := 3) (v := ?_) rfl (by kernel_rfl) (by kernel_rfl) (by kernel_rfl) (fun _ _ _ h => h) (Or.inl ⟨by rfl, ?_⟩) (by assumption) ?_
        rotate_left
        · (intro w hSw; (try dsimp only at hSw); go_simp) <;> with_reducible rfl
        try simp only [Act.put, List.getElem_toArray, List.getElem_cons_succ, List.getElem_cons_zero, List.setIfInBounds_toArray, List.set_cons_zero, List.set_cons_succ]
        refine wpAnyH_take (i := 4) (v := ?_) rfl (by kernel_rfl) (by kernel_rfl) (by kernel_rfl) (fun _ _ _ h => h) (Or.inl ⟨by rfl, ?_⟩) (by assumption) ?_
        rotate_left
        · (intro w hSw; (try dsimp only at hSw); go_simp) <;> with_reducible rfl
        try simp only [Act.put, List.getElem_toArray, List.getElem_cons_succ, List.getElem_cons_zero, List.setIfInBounds_toArray, List.set_cons_zero, List.set_cons_succ]
        refine wpAnyH_take (i := 5) (v := undef) rfl (by kernel_rfl) (by kernel_rfl) (by kernel_rfl) (fun _ _ _ h => h) (Or.inr ⟨by rfl, rfl⟩) (by assumption) ?_
        try simp only [Act.put, List.getElem_toArray, List.getElem_cons_succ, List.getElem_cons_zero, List.setIfInBounds_toArray, List.set_cons_zero, List.set_cons_succ]
        refine wpAnyH_take (i := 6) (v := undef) rfl (by kernel_rfl) (by kernel_rfl) (by kernel_rfl) (fun _ _ _ h => h) (Or.inr ⟨by rfl, rfl⟩) (by assumption) ?_
        try simp only [Act.put, List.getElem_toArray, List.getElem_cons_succ, List.getElem_cons_zero, List.setIfInBounds_toArray, List.set_cons_zero, List.set_cons_succ]
        refine wpAnyH_take (i := 7) (v := undef) rfl (by kernel_rfl) (by kernel_rfl) (by kernel_rfl) (fun _ _ _ h => h) (Or.inr ⟨by rfl, rfl⟩) (by assumption) ?_
        try simp only [Act.put, List.getElem_toArray, List.getElem_cons_succ, List.getElem_cons_zero, List.setIfInBounds_toArray, List.set_cons_zero, List.set_cons_succ]
        refine wpAnyH_take (i := 8) (v := undef) rfl (by kernel_rfl) (by kernel_rfl) (by kernel_rfl) (fun _ _ _ h => h) (Or.inr ⟨by rfl, rfl⟩) (by assumption) ?_
        try simp only [Act.put, List.getElem_toArray, List.getElem_cons_succ, List.getElem_cons_zero, List.setIfInBounds_toArray, List.set_cons_zero, List.set_cons_succ]
        refine wpAnyH_take (i := 9) (v := undef) rfl (by kernel_rfl) (by kernel_rfl) (by kernel_rfl) (fun _ _ _ h => h) (Or.inr ⟨by rfl, rfl⟩) (by assumption) ?_
        try simp only [Act.put, List.getElem_toArray, List.getElem_cons_succ, List.getElem_cons_zero, List.setIfInBounds_toArray, List.set_cons_zero, List.set_cons_succ]
        refine wpAnyH_take (i := 10) (v := undef) rfl (by kernel_rfl) (by kernel_rfl) (by kernel_rfl) (fun _ _ _ h => h) (Or.inr ⟨by rfl, rfl⟩) (by assumption) ?_
        try simp only [Act.put, List.getElem_toArray, List.getElem_cons_succ, List.getElem_cons_zero, List.setIfInBounds_toArray, List.set_cons_zero, List.set_cons_succ]
        refine wpAnyH_take (i := 11) (v := undef) rfl (by kernel_rfl) (by kernel_rfl) (by kernel_rfl) (fun _ _ _ h => h) (Or.inr ⟨by rfl, rfl⟩) (by assumption) ?_
        try simp only [Act.put, List.getElem_toArray, List.getElem_cons_succ, List.getElem_cons_zero, List.setIfInBounds_toArray, List.set_cons_zero, List.set_cons_succ]
        refine wpAnyH_take (i := 12) (v := undef) rfl (by kernel_rfl) (by kernel_rfl) (by kernel_rfl) (fun _ _ _ h => h) (Or.inr ⟨by rfl, rfl⟩) (by assumption) ?_
        try simp only [Act.put, List.getElem_toArray, List.getElem_cons_succ, List.getElem_cons_zero, List.setIfInBounds_toArray, List.set_cons_zero, List.set_cons_succ]
        refine wpAnyH_take (i := 13) (v := undef) rfl (by kernel_rfl) (by kernel_rfl) (by kernel_rfl) (fun _ _ _ h => h) (Or.inr ⟨by rfl, rfl⟩) (by assumption) ?_
        try simp only [Act.put, List.getElem_toArray, List.getElem_cons_succ, List.getElem_cons_zero, List.setIfInBounds_toArray, List.set_cons_zero, List.set_cons_succ]
        refine wpAnyH_take (i := 14) (v := undef) rfl (by kernel_rfl) (by kernel_rfl) (by kernel_rfl) (fun _ _ _ h => h) (Or.inr ⟨by rfl, rfl⟩) (by assumption) ?_
        try simp only [Act.put, List.getElem_toArray, List.getElem_cons_succ, List.getElem_cons_zero, List.setIfInBounds_toArray, List.set_cons_zero, List.set_cons_succ]
        refine wpAnyH_take (i := 15) (v := undef) rfl (by kernel_rfl) (by kernel_rfl) (by kernel_rfl) (fun _ _ _ h => h) (Or.inr ⟨by rfl, rfl⟩) (by assumption) ?_
        try simp only [Act.put, List.getElem_toArray, List.getElem_cons_succ, List.getElem_cons_zero, List.setIfInBounds_toArray, List.set_cons_zero, List.set_cons_succ]
        refine wpAnyH_take (i := 16) (v := undef) rfl (by kernel_rfl) (by kernel_rfl) (by kernel_rfl) (fun _ _ _ h => h) (Or.inr ⟨by rfl, rfl⟩) (by assumption) ?_
        try simp only [Act.put, List.getElem_toArray, List.getElem_cons_succ, List.getElem_cons_zero, List.setIfInBounds_toArray, List.set_cons_zero, List.set_cons_succ]
        refine wpAnyH_take (i := 17) (v := undef) rfl (by kernel_rfl) (by kernel_rfl) (by kernel_rfl) (fun _ _ _ h => h) (Or.inr ⟨by rfl, rfl⟩) (by assumption) ?_
        try simp only [Act.put, List.getElem_toArray, List.getElem_cons_succ, List.getElem_cons_zero, List.setIfInBounds_toArray, List.set_cons_zero, List.set_cons_succ]
        refine wpAnyH_take (i := 18) (v := undef) rfl (by kernel_rfl) (by kernel_rfl) (by kernel_rfl) (fun _ _ _ h => h) (Or.inr ⟨by rfl, rfl⟩) (by assumption) ?_
        try simp only [Act.put, List.getElem_toArray, List.getElem_cons_succ, List.getElem_cons_zero, List.setIfInBounds_toArray, List.set_cons_zero, List.set_cons_succ]
        refine wpAnyH_take (i := 19) (v := undef) rfl (by kernel_rfl) (by kernel_rfl) (by kernel_rfl) (fun _ _ _ h => h) (Or.inr ⟨by rfl, rfl⟩) (by assumption) ?_
        try simp only [Act.put, List.getElem_toArray, List.getElem_cons_succ, List.getElem_cons_zero, List.setIfInBounds_toArray, List.set_cons_zero, List.set_cons_succ]
        refine wpAnyH_take (i := 20) (v := ?_) rfl (by kernel_rfl) (by kernel_rfl) (by kernel_rfl) (fun _ _ _ h => h) (Or.inl ⟨by rfl, ?_⟩) (by assumption) ?_
        rotate_left
        · (intro w hSw; (try dsimp only at hSw); go_simp) <;> with_reducible rfl
        try simp only [Act.put, List.getElem_toArray, List.getElem_cons_succ, List.getElem_cons_zero, List.setIfInBounds_toArray, List.set_cons_zero, List.set_cons_succ]
        refine wpAnyH_done (by kernel_rfl) ?_ _
        all_goals go_wp2
        all_goals go_ret
        all_goals have Kn : Kp w [(⟨wr.heap.size, 0, none⟩, .string l[k].name), (⟨wr.heap.size, 1, none⟩, .int .i64 l[k].asc), (⟨wr.heap.size, 2, none⟩, .int .i64 l[k].dec), (⟨wr.heap.size, 3, none⟩, .int .i64 l[k].bri), (⟨wr.heap.size, 4, none⟩, .int .i64 l[k].fai)] w1 := by assumption
        all_goals exact ⟨ret_bool (valid_bad hlt (step_bad hlt (star_at hlt h0))).symm, Kn.b⟩
      · cases k with
        | zero =>
          have hst := hide (show stepOk starOk starLt l 0 = true from (step_zero hlt).trans (star_at hlt h0))
          have f0 : wr.cell? ⟨g, off, none⟩ = some (.string l[0].name) := f0
          have f1 : wr.cell? ⟨g, off + 1, none⟩ = some (.int .i64 l[0].asc) := f1
          have f2 : wr.cell? ⟨g, off + 2, none⟩ = some (.int .i64 l[0].dec) := f2
          have f3 : wr.cell? ⟨g, off + 3, none⟩ = some (.int .i64 l[0].bri) := f3
          have f4 : wr.cell? ⟨g, off + 4, none⟩ = some (.int .i64 l[0].fai) := f4
          clear hc hr hb
          have K0 : Kp w [(⟨wr.heap.size, 0, none⟩, .string l[0].name), (⟨wr.heap.size, 1, none⟩, .int .i64 l[0].asc), (⟨wr.heap.size, 2, none⟩, .int .i64 l[0].dec), (⟨wr.heap.size, 3, none⟩, .int .i64 l[0].bri), (⟨wr.heap.size, 4, none⟩, .int .i64 l[0].fai)] (wr.alloc (.cells #[.string l[0].name, .int .i64 l[0].asc, .int .i64 l[0].dec, .int .i64 l[0].bri, .int .i64 l[0].fai] 38)).drew := ⟨(Hb.out.trans ((Below.refl _ _).alloc (by omega) _)).drew, fun p hp => by
            simp only [List.mem_cons, List.not_mem_nil, or_false] at hp
            rcases hp with rfl | rfl | rfl | rfl | rfl <;> refine ⟨?_, ?_⟩ <;> first | (simp [go_sem]; done) | (simp [go_sem]; omega) | (exact (((Below.refl wr.heap.size wr).alloc (Nat.le_refl _) _).drew.cell hgw).trans (by assumption))⟩
          go_wp2_with fail
          refine wp_region_held_drew (S := (fun w' => w'.cell? ⟨wr.heap.size, 0, none⟩ = some (.string l[0].name) ∧ w'.cell? ⟨wr.heap.size, 1, none⟩ = some (.int .i64 l[0].asc) ∧ w'.cell? ⟨wr.heap.size, 2, none⟩ = some (.int .i64 l[0].dec) ∧ w'.cell? ⟨wr.heap.size, 3, none⟩ = some (.int .i64 l[0].bri) ∧ w'.cell? ⟨wr.heap.size, 4, none⟩ = some (.int .i64 l[0].fai))) (by kernel_rfl) ?_ (fun hHeld => ?_)
          · (try dsimp only); go_keep
          refine wpAnyH_take (i := 0) (v := ?_) rfl (by kernel_rfl) (by kernel_rfl) (by kernel_rfl) (fun _ _ _ h => h) (Or.inl ⟨by rfl, ?_⟩) (by assumption) ?_
          rotate_left
          · (intro w hSw; (try dsimp only at hSw); go_simp) <;> with_reducible rfl
          try simp only [Act.put, List.getElem_toArray, List.getElem_cons_succ, List.getElem_cons_zero, List.setIfInBounds_toArray, List.set_cons_zero, List.set_cons_succ]
          refine wpAnyH_take (i := 1) (v := ?_) rfl (by kernel_rfl) (by kernel_rfl) (by kernel_rfl) (fun _ _ _ h => h) (Or.inl ⟨by rfl, ?_⟩) (by assumption) ?_
          rotate_left
          · (intro w hSw; (try dsimp only at hSw); go_simp) <;> with_reducible rfl
          try simp only [Act.put, List.getElem_toArray, List.getElem_cons_succ, List.getElem_cons_zero, List.setIfInBounds_toArray, List.set_cons_zero, List.set_cons_succ]
          refine wpAnyH_ready (rs := [2]) (by kernel_rfl) (by simp) ?_
          refine AllReadyH.cons rfl (fun K hK => ?_) AllReadyH.nil
          go_simp
          (go_at_call 24; refine (isStar_bit h0 _ (by assumption)).mono ?_; rintro e w1 ⟨rfl, hb1⟩; have Kn := Kp.below (by assumption) hb1; have dd0 := Kn.at0; have dd1 := Kn.at1; have dd2 := Kn.at2; have dd3 := Kn.at3; have dd4 := Kn.at4)
          try go_wp2_with fail
          refine hK.out _ _ ?_ (fun hHeld => ?_)
          · (try dsimp only); go_keep
          clear hK K
          try simp only [Act.put, List.getElem_toArray, List.getElem_cons_succ, List.getElem_cons_zero, List.setIfInBounds_toArray, List.set_cons_zero, List.set_cons_succ]
          refine wpAnyH_take (i := 3) (v := ?_) rfl (by kernel_rfl) (by kernel_rfl) (by kernel_rfl) (fun _ _ _ h => h) (Or.inl ⟨by rfl, ?_⟩) (by assumption) ?_
          rotate_left
          · (intro w hSw; (try dsimp only at hSw); go_simp) <;> with_reducible rfl
          try simp only [Act.put, List.getElem_toArray, List.getElem_cons_succ, List.getElem_cons_zero, List.setIfInBounds_toArray, List.set_cons_zero, List.set_cons_succ]
          refine wpAnyH_take (i := 4) (v := ?_) rfl (by kernel_rfl) (by kernel_rfl) (by kernel_rfl) (fun _ _ _ h => h) (Or.inl ⟨by rfl, ?_⟩) (by assumption) ?_
          rotate_left
          · (intro w hSw; (try dsimp only at hSw); go_simp) <;> with_reducible rfl
          try simp only [Act.put, List.getElem_toArray, List.getElem_cons_succ, List.getElem_cons_zero, List.setIfInBounds_toArray, List.set_cons_zero, List.set_cons_succ]
          refine wpAnyH_take (i := 5) (v := ?_) rfl (by kernel_rfl) (by kernel_rfl) (by kernel_rfl) (fun _ _ _ h => h) (Or.inl ⟨by rfl, ?_⟩) (by assumption) ?_
          rotate_left
          · (intro w hSw; (try dsimp only at hSw); go_simp) <;> with_reducible rfl
          try simp only [Act.put, List.getElem_toArray, List.getElem_cons_succ, List.getElem_cons_zero, List.setIfInBounds_toArray, List.set_cons_zero, List.set_cons_succ]
          refine wpAnyH_take (i := 6) (v := ?_) rfl (by kernel_rfl) (by kernel_rfl) (by kernel_rfl) (fun _ _ _ h => h) (Or.inl ⟨by rfl, ?_⟩) (by assumption) ?_
          rotate_left
          · (intro w hSw; (try dsimp only at hSw); go_simp) <;> with_reducible rfl
          try simp only [Act.put, List.getElem_toArray, List.getElem_cons_succ, List.getElem_cons_zero, List.setIfInBounds_toArray, List.set_cons_zero, List.set_cons_succ]
          refine wpAnyH_take (i := 7) (v := ?_) rfl (by kernel_rfl) (by kernel_rfl) (by kernel_rfl) (fun _ _ _ h => h) (Or.inl ⟨by rfl, ?_⟩) (by assumption) ?_
          rotate_left
          · (intro w hSw; (try dsimp only at hSw); go_simp) <;> with_reducible rfl
          try simp only [Act.put, List.getElem_toArray, List.getElem_cons_succ, List.getElem_cons_zero, List.setIfInBounds_toArray, List.set_cons_zero, List.set_cons_succ]
          refine wpAnyH_take (i := 8) (v := undef) rfl (by kernel_rfl) (by kernel_rfl) (by kernel_rfl) (fun _ _ _ h => h) (Or.inr ⟨by rfl, rfl⟩) (by assumption) ?_
          try simp only [Act.put, List.getElem_toArray, List.getElem_cons_succ, List.getElem_cons_zero, List.setIfInBounds_toArray, List.set_cons_zero, List.set_cons_succ]
          refine wpAnyH_take (i := 9) (v := undef) rfl (by kernel_rfl) (by kernel_rfl) (by kernel_rfl) (fun _ _ _ h => h) (Or.inr ⟨by rfl, rfl⟩) (by assumption) ?_
          try simp only [Act.put, List.getElem_toArray, List.getElem_cons_succ, List.getElem_cons_zero, List.setIfInBounds_toArray, List.set_cons_zero, List.set_cons_succ]
          refine wpAnyH_take (i := 10) (v := undef) rfl (by kernel_rfl) (by kernel_rfl) (by kernel_rfl) (fun _ _ _ h => h) (Or.inr ⟨by rfl, rfl⟩) (by assumption) ?_
          try simp only [Act.put, List.getElem_toArray, List.getElem_cons_succ, List.getElem_cons_zero, List.setIfInBounds_toArray, List.set_cons_zero, List.set_cons_succ]
          refine wpAnyH_take (i := 11) (v := undef) rfl (by kernel_rfl) (by kernel_rfl) (by kernel_rfl) (fun _ _ _ h => h) (Or.inr ⟨by rfl, rfl⟩) (by assumption) ?_
          try simp only [Act.put, List.getElem_toArray, List.getElem_cons_succ, List.getElem_cons_zero, List.setIfInBounds_toArray, List.set_cons_zero, List.set_cons_succ]
          refine wpAnyH_take (i := 12) (v := undef) rfl (by kernel_rfl) (by kernel_rfl) (by kernel_rfl) (fun _ _ _ h => h) (Or.inr ⟨by rfl, rfl⟩) (by assumption) ?_
          try simp only [Act.put, List.getElem_toArray, List.getElem_cons_succ, List.getElem_cons_zero, List.setIfInBounds_toArray, List.set_cons_zero, List.set_cons_succ]
          refine wpAnyH_take (i := 13) (v := undef) rfl (by kernel_rfl) (by kernel_rfl) (by kernel_rfl) (fun _ _ _ h => h) (Or.inr ⟨by rfl, rfl⟩) (by assumption) ?_
          try simp only [Act.put, List.getElem_toArray, List.getElem_cons_succ, List.getElem_cons_zero, List.setIfInBounds_toArray, List.set_cons_zero, List.set_cons_succ]
          refine wpAnyH_take (i := 14) (v := undef) rfl (by kernel_rfl) (by kernel_rfl) (by kernel_rfl) (fun _ _ _ h => h) (Or.inr ⟨by rfl, rfl⟩) (by assumption) ?_
          try simp only [Act.put, List.getElem_toArray, List.getElem_cons_succ, List.getElem_cons_zero, List.setIfInBounds_toArray, List.set_cons_zero, List.set_cons_succ]
          refine wpAnyH_take (i := 15) (v := undef) rfl (by kernel_rfl) (by kernel_rfl) (by kernel_rfl) (fun _ _ _ h => h) (Or.inr ⟨by rfl, rfl⟩) (by assumption) ?_
          try simp only [Act.put, List.getElem_toArray, List.getElem_cons_succ, List.getElem_cons_zero, List.setIfInBounds_toArray, List.set_cons_zero, List.set_cons_succ]
          refine wpAnyH_take (i := 16) (v := undef) rfl (by kernel_rfl) (by kernel_rfl) (by kernel_rfl) (fun _ _ _ h => h) (Or.inr ⟨by rfl, rfl⟩) (by assumption) ?_
          try simp only [Act.put, List.getElem_toArray, List.getElem_cons_succ, List.getElem_cons_zero, List.setIfInBounds_toArray, List.set_cons_zero, List.set_cons_succ]
          refine wpAnyH_take (i := 17) (v := undef) rfl (by kernel_rfl) (by kernel_rfl) (by kernel_rfl) (fun _ _ _ h => h) (Or.inr ⟨by rfl, rfl⟩) (by assumption) ?_
          try simp only [Act.put, List.getElem_toArray, List.getElem_cons_succ, List.getElem_cons_zero, List.setIfInBounds_toArray, List.set_cons_zero, List.set_cons_succ]
          refine wpAnyH_take (i := 18) (v := undef) rfl (by kernel_rfl) (by kernel_rfl) (by kernel_rfl) (fun _ _ _ h => h) (Or.inr ⟨by rfl, rfl⟩) (by assumption) ?_
          try simp only [Act.put, List.getElem_toArray, List.getElem_cons_succ, List.getElem_cons_zero, List.setIfInBounds_toArray, List.set_cons_zero, List.set_cons_succ]
          refine wpAnyH_take (i := 19) (v := ?_) rfl (by kernel_rfl) (by kernel_rfl) (by kernel_rfl) (fun _ _ _ h => h) (Or.inl ⟨by rfl, ?_⟩) (by assumption) ?_
          rotate_left
          · (intro w hSw; (try dsimp only at hSw); go_simp) <;> with_reducible rfl
          try simp only [Act.put, List.getElem_toArray, List.getElem_cons_succ, List.getElem_cons_zero, List.setIfInBounds_toArray, List.set_cons_zero, List.set_cons_succ]
          refine wpAnyH_take (i := 20) (v := ?_) rfl (by kernel_rfl) (by kernel_rfl) (by kernel_rfl) (fun _ _ _ h => h) (Or.inl ⟨by rfl, ?_⟩) (by assumption) ?_
          rotate_left
          · (intro w hSw; (try dsimp only at hSw); go_simp) <;> with_reducible rfl
          try simp only [Act.put, List.getElem_toArray, List.getElem_cons_succ, List.getElem_cons_zero, List.setIfInBounds_toArray, List.set_cons_zero, List.set_cons_succ]
          refine wpAnyH_done (by kernel_rfl) ?_ _
          all_goals
            have Kn : Kp w [(⟨wr.heap.size, 0, none⟩, .string l[0].name), (⟨wr.heap.size, 1, none⟩, .int .i64 l[0].asc), (⟨wr.heap.size, 2, none⟩, .int .i64 l[0].dec), (⟨wr.heap.size, 3, none⟩, .int .i64 l[0].bri), (⟨wr.heap.size, 4, none⟩, .int .i64 l[0].fai)] w1 := by assumption
            go_wp2
            go_roundw
            case rel => exact ⟨1, by omega, by go_num, Kn.b, steps_next hs.out hst.out⟩
            case measure => simp [intOf]; omega
        | succ j =>
          have hlj : j < l.length := by omega
          obtain ⟨g', off', he, hg', hc'⟩ := hr.elem StarT.cells_len hlj
          injection he with he
          injection he with he1 he2 _
          subst he1 he2
          have h1 : wr.cell? ⟨g, off + j * 5, none⟩ = some (.string l[j].name) := (hb.cell (p := ⟨g, off + j * 5, none⟩) hg').trans (hc' 0 _ rfl)
          have h2 : wr.cell? ⟨g, off + j * 5 + 1, none⟩ = some (.int .i64 l[j].asc) := (hb.cell (p := ⟨g, off + j * 5 + 1, none⟩) hg').trans (hc' 1 _ rfl)
          have h3 : wr.cell? ⟨g, off + j * 5 + 2, none⟩ = some (.int .i64 l[j].dec) := (hb.cell (p := ⟨g, off + j * 5 + 2, none⟩) hg').trans (hc' 2 _ rfl)
          have h4 : wr.cell? ⟨g, off + j * 5 + 3, none⟩ = some (.int .i64 l[j].bri) := (hb.cell (p := ⟨g, off + j * 5 + 3, none⟩) hg').trans (hc' 3 _ rfl)
          have h5 : wr.cell? ⟨g, off + j * 5 + 4, none⟩ = some (.int .i64 l[j].fai) := (hb.cell (p := ⟨g, off + j * 5 + 4, none⟩) hg').trans (hc' 4 _ rfl)
          have i1 : (0 : Int) ≤ (j : Int) := by omega
          have i2 : (j : Int) < (l.length : Int) := by omega
          have hwj : IntKind.i64.wrap (j : Int) = j := by rw [IntKind.wrap_i64]; omega
          clear hc hc' hr hb
          have K0 : Kp w [(⟨wr.heap.size, 0, none⟩, .string l[j + 1].name), (⟨wr.heap.size, 1, none⟩, .int .i64 l[j + 1].asc), (⟨wr.heap.size, 2, none⟩, .int .i64 l[j + 1].dec), (⟨wr.heap.size, 3, none⟩, .int .i64 l[j + 1].bri), (⟨wr.heap.size, 4, none⟩, .int .i64 l[j + 1].fai), (⟨g, off + j * 5, none⟩, .string l[j].name), (⟨g, off + j * 5 + 1, none⟩, .int .i64 l[j].asc), (⟨g, off + j * 5 + 2, none⟩, .int .i64 l[j].dec), (⟨g, off + j * 5 + 3, none⟩, .int .i64 l[j].bri), (⟨g, off + j * 5 + 4, none⟩, .int .i64 l[j].fai)] (wr.alloc (.cells #[.string l[j + 1].name, .int .i64 l[j + 1].asc, .int .i64 l[j + 1].dec, .int .i64 l[j + 1].bri, .int .i64 l[j + 1].fai] 38)).drew := ⟨(Hb.out.trans ((Below.refl _ _).alloc (by omega) _)).drew, fun p hp => by
            simp only [List.mem_cons, List.not_mem_nil, or_false] at hp
            rcases hp with rfl | rfl | rfl | rfl | rfl | rfl | rfl | rfl | rfl | rfl <;> refine ⟨?_, ?_⟩ <;> first | (simp [go_sem]; done) | (simp [go_sem]; omega) | (exact (((Below.refl wr.heap.size wr).alloc (Nat.le_refl _) _).drew.cell hgw).trans (by assumption))⟩
          cases hq : Op.bytesLess l[j].name.toList l[j + 1].name.toList
          · have hst := hide (show stepOk starOk starLt l (j + 1) = false from (step_succ hlt).trans (by rw [star_at hlt h0]; exact hq))
            go_wp2_with fail
            go_region_held3 (fun w' => w'.cell? ⟨wr.heap.size, 0, none⟩ = some (.string l[j + 1].name) ∧ w'.cell? ⟨wr.heap.size, 1, none⟩ = some (.int .i64 l[j + 1].asc) ∧ w'.cell? ⟨wr.heap.size, 2, none⟩ = some (.int .i64 l[j + 1].dec) ∧ w'.cell? ⟨wr.heap.size, 3, none⟩ = some (.int .i64 l[j + 1].bri) ∧ w'.cell? ⟨wr.heap.size, 4, none⟩ = some (.int .i64 l[j + 1].fai) ∧ w'.cell? ⟨g, off + j * 5, none⟩ = some (.string l[j].name) ∧ w'.cell? ⟨g, off + j * 5 + 1, none⟩ = some (.int .i64 l[j].asc) ∧ w'.cell? ⟨g, off + j * 5 + 2, none⟩ = some (.int .i64 l[j].dec) ∧ w'.cell? ⟨g, off + j * 5 + 3, none⟩ = some (.int .i64 l[j].bri) ∧ w'.cell? ⟨g, off + j * 5 + 4, none⟩ = some (.int .i64 l[j].fai)) (go_keep) (first | (go_at_call 24; refine (isStar_bit h0 _ (by assumption)).mono ?_; rintro e w1 ⟨rfl, hb1⟩; have Kn := Kp.below (by assumption) hb1; have dd0 := Kn.at0; have dd1 := Kn.at1; have dd2 := Kn.at2; have dd3 := Kn.at3; have dd4 := Kn.at4; have dd5 := Kn.at5; have dd6 := Kn.at6; have dd7 := Kn.at7; have dd8 := Kn.at8; have dd9 := Kn.at9) | (go_at_call 25; refine (starName_any _ _ _ _ _ _).mono ?_; rintro e w1 ⟨rfl, hb1⟩; have Kn := Kp.below (by assumption) hb1; have dd0 := Kn.at0; have dd1 := Kn.at1; have dd2 := Kn.at2; have dd3 := Kn.at3; have dd4 := Kn.at4; have dd5 := Kn.at5; have dd6 := Kn.at6; have dd7 := Kn.at7; have dd8 := Kn.at8; have dd9 := Kn.at9))
            go_wp2
            go_ret
            have Kn : Kp w [(⟨wr.heap.size, 0, none⟩, .string l[j + 1].name), (⟨wr.heap.size, 1, none⟩, .int .i64 l[j + 1].asc), (⟨wr.heap.size, 2, none⟩, .int .i64 l[j + 1].dec), (⟨wr.heap.size, 3, none⟩, .int .i64 l[j + 1].bri), (⟨wr.heap.size, 4, none⟩, .int .i64 l[j + 1].fai), (⟨g, off + j * 5, none⟩, .string l[j].name), (⟨g, off + j * 5 + 1, none⟩, .int .i64 l[j].asc), (⟨g, off + j * 5 + 2, none⟩, .int .i64 l[j].dec), (⟨g, off + j * 5 + 3, none⟩, .int .i64 l[j].bri), (⟨g, off + j * 5 + 4, none⟩, .int .i64 l[j].fai)] w1 := by assumption
            exact ⟨ret_bool (valid_bad hlt hst.out).symm, Kn.b⟩
          · have hst := hide (show stepOk starOk starLt l (j + 1) = true from (step_succ hlt).trans (by rw [star_at hlt h0]; exact hq))
            go_wp2_with fail
            go_region_held3 (fun w' => w'.cell? ⟨wr.heap.size, 0, none⟩ = some (.string l[j + 1].name) ∧ w'.cell? ⟨wr.heap.size, 1, none⟩ = some (.int .i64 l[j + 1].asc) ∧ w'.cell? ⟨wr.heap.size, 2, none⟩ = some (.int .i64 l[j + 1].dec) ∧ w'.cell? ⟨wr.heap.size, 3, none⟩ = some (.int .i64 l[j + 1].bri) ∧ w'.cell? ⟨wr.heap.size, 4, none⟩ = some (.int .i64 l[j + 1].fai) ∧ w'.cell? ⟨g, off + j * 5, none⟩ = some (.string l[j].name) ∧ w'.cell? ⟨g, off + j * 5 + 1, none⟩ = some (.int .i64 l[j].asc) ∧ w'.cell? ⟨g, off + j * 5 + 2, none⟩ = some (.int .i64 l[j].dec) ∧ w'.cell? ⟨g, off + j * 5 + 3, none⟩ = some (.int .i64 l[j].bri) ∧ w'.cell? ⟨g, off + j * 5 + 4, none⟩ = some (.int .i64 l[j].fai)) (go_keep) (first | (go_at_call 24; refine (isStar_bit h0 _ (by assumption)).mono ?_; rintro e w1 ⟨rfl, hb1⟩; have Kn := Kp.below (by assumption) hb1; have dd0 := Kn.at0; have dd1 := Kn.at1; have dd2 := Kn.at2; have dd3 := Kn.at3; have dd4 := Kn.at4; have dd5 := Kn.at5; have dd6 := Kn.at6; have dd7 := Kn.at7; have dd8 := Kn.at8; have dd9 := Kn.at9) | (go_at_call 25; refine (starName_any _ _ _ _ _ _).mono ?_; rintro e w1 ⟨rfl, hb1⟩; have Kn := Kp.below (by assumption) hb1; have dd0 := Kn.at0; have dd1 := Kn.at1; have dd2 := Kn.at2; have dd3 := Kn.at3; have dd4 := Kn.at4; have dd5 := Kn.at5; have dd6 := Kn.at6; have dd7 := Kn.at7; have dd8 := Kn.at8; have dd9 := Kn.at9))
            have Kn : Kp w [(⟨wr.heap.size, 0, none⟩, .string l[j + 1].name), (⟨wr.heap.size, 1, none⟩, .int .i64 l[j + 1].asc), (⟨wr.heap.size, 2, none⟩, .int .i64 l[j + 1].dec), (⟨wr.heap.size, 3, none⟩, .int .i64 l[j + 1].bri), (⟨wr.heap.size, 4, none⟩, .int .i64 l[j + 1].fai), (⟨g, off + j * 5, none⟩, .string l[j].name), (⟨g, off + j * 5 + 1, none⟩, .int .i64 l[j].asc), (⟨g, off + j * 5 + 2, none⟩, .int .i64 l[j].dec), (⟨g, off + j * 5 + 3, none⟩, .int .i64 l[j].bri), (⟨g, off + j * 5 + 4, none⟩, .int .i64 l[j].fai)] w1 := by assumption
            go_wp2
            go_roundw
            case rel => exact ⟨j + 1 + 1, by omega, by go_num, Kn.b, steps_next hs.out hst.out⟩
            case measure => simp [intOf]; omega
    · obtain rfl : k = l.length := by omega
      clear hr hb
      go_wp2
      go_ret
      exact ⟨ret_bool (by rw [valid_good hs.out]; simp; omega), Hb.out⟩
theorem impl_ValidStars_any (A : Option Addr) (c : Nat) (l : List StarT) (w : World) (hn : l.length ≤ 1048576) (hok : ∀ x ∈ l, x.ok) (hr : Rd w w.heap.size 5 A l.length (l.flatMap StarT.cells)) :
    Calls Try.prog 17 #[.slice A l.length c] w fun e w' => e = .returned (.bool (validB starOk starLt 60 l)) ∧ Below w.heap.size w w' := by
  have HR := hide hr
  have HO := hide hok
  clear hr hok
  go_enter Try.func17, Try.ntmps17
  go_wp2_with fail
  refine (rising_Star_any A c l _ hn HO.out HR.out).mono ?_
  rintro e w' ⟨rfl, hb⟩
  go_wp2
  go_ret
  exact ⟨rfl, hb⟩
theorem spec_l04One_bit {name asc dec bri fai} {b : Bool} (h : starB name asc dec bri fai = b) (w : World) (gs : name.size ≤ maxLen) (g o1 : Nat) (k0 : w.cell? ⟨g, o1, none⟩ = some (.string name)) (k1 : w.cell? ⟨g, o1 + 1, none⟩ = some (.int .i64 asc)) (k2 : w.cell? ⟨g, o1 + 2, none⟩ = some (.int .i64 dec)) (k3 : w.cell? ⟨g, o1 + 3, none⟩ = some (.int .i64 bri)) (k4 : w.cell? ⟨g, o1 + 4, none⟩ = some (.int .i64 fai)) (N : Nat) : Calls Try.prog 22 #[.pointer (some ⟨g, o1, none⟩)] (w.drewN N) fun e w' => e = .returned (.bool b) ∧ ∃ m, w' = (w.drewN N).drewN m :=
  (h ▸ spec_l04One_any name asc dec bri fai (w.drewN N) gs g o1 k0 k1 k2 k3 k4 : Calls Try.prog 22 #[.pointer (some ⟨g, o1, none⟩)] (w.drewN N) fun e w' => e = .returned (.bool b) ∧ ∃ m, w' = (w.drewN N).drewN m).mono (fun e w' h => h)
set_option maxHeartbeats 2000000 in
theorem l04Ok_any (A : Option Addr) (c : Nat) (l : List StarT) (w : World) (hn : l.length ≤ 1048576) (hok : ∀ x ∈ l, x.ok) (hr : Rd w w.heap.size 5 A l.length (l.flatMap StarT.cells)) :
    Calls Try.prog 14 #[.slice A l.length c] w fun e w' => e = .returned (.bool (validB starOk starLt 60 l)) ∧ Below w.heap.size w w' := by
  have HO := hide hok
  clear hok
  go_enter Try.func14, Try.ntmps14
  go_wp2_with fail
  go_loopw [3] (fun i wr => ∃ k : Nat, k ≤ l.length ∧ i = .int .i64 k ∧ (∃ n, wr = w.drewN n) ∧ Hid (∀ j, j < k → stepOk starOk starLt l j = true)) (fun i _ => l.length - (intOf i).toNat)
  case atStart => exact ⟨0, by omega, rfl, ⟨0, rfl⟩, fun j hj => absurd hj (by omega)⟩
  case round =>
    obtain ⟨k, hk, rfl, ⟨n, rfl⟩, hs⟩ := hrel
    by_cases hlt : k < l.length
    · obtain ⟨g, off, rfl, hg, hc⟩ := hr.elem StarT.cells_len hlt
      have f0 : w.cell? ⟨g, off + k * 5, none⟩ = some (.string l[k].name) := hc 0 _ rfl
      have f1 : w.cell? ⟨g, off + k * 5 + 1, none⟩ = some (.int .i64 l[k].asc) := hc 1 _ rfl
      have f2 : w.cell? ⟨g, off + k * 5 + 2, none⟩ = some (.int .i64 l[k].dec) := hc 2 _ rfl
      have f3 : w.cell? ⟨g, off + k * 5 + 3, none⟩ = some (.int .i64 l[k].bri) := hc 3 _ rfl
      have f4 : w.cell? ⟨g, off + k * 5 + 4, none⟩ = some (.int .i64 l[k].fai) := hc 4 _ rfl
      have hsz : l[k].name.size ≤ maxLen := (HO.out l[k] (List.getElem_mem _)).1
      have i1 : (0 : Int) ≤ (k : Int) := by omega
      have i2 : (k : Int) < (l.length : Int) := by omega
      cases h0 : starB l[k].name l[k].asc l[k].dec l[k].bri l[k].fai
      · have hq1 := hide (spec_l04One_bit h0 w hsz g _ f0 f1 f2 f3 f4)
        clear hc hr
        go_wp2_with fail
        go_quiet ((go_at_call 22; with_reducible first | exact Calls.quiet_of (hq1.out _) | exact qadd_ex (hq1.out _)))
        go_wp2
        go_ret
        exact ⟨ret_bool (valid_bad hlt (step_bad hlt (star_at hlt h0))).symm, (by repeat (first | exact Below.refl _ _ | assumption | refine Below.drew ?_ | refine below_drewN ?_ _ | refine Below.alloc ?_ (by first | omega | (simp; done) | (simp; omega)) _ | refine Below.setCell ?_ (by first | omega | (simp; done) | (simp; omega)) _ | refine Below.trans ?_ (Below.mono (by assumption) (by first | omega | (simp; done) | (simp; omega)))))⟩
      · cases k with
        | zero =>
          have hst := hide (show stepOk starOk starLt l 0 = true from (step_zero hlt).trans (star_at hlt h0))
          have f0 : w.cell? ⟨g, off, none⟩ = some (.string l[0].name) := f0
          have f1 : w.cell? ⟨g, off + 1, none⟩ = some (.int .i64 l[0].asc) := f1
          have f2 : w.cell? ⟨g, off + 2, none⟩ = some (.int .i64 l[0].dec) := f2
          have f3 : w.cell? ⟨g, off + 3, none⟩ = some (.int .i64 l[0].bri) := f3
          have f4 : w.cell? ⟨g, off + 4, none⟩ = some (.int .i64 l[0].fai) := f4
          have hq1 := hide (spec_l04One_bit h0 w hsz g _ f0 f1 f2 f3 f4)
          clear hc hr
          go_wp2_with fail
          go_quiet ((go_at_call 22; with_reducible first | exact Calls.quiet_of (hq1.out _) | exact qadd_ex (hq1.out _)))
          go_wp2
          go_roundw
          case rel => exact ⟨1, by omega, by go_num, ⟨_, by first | rfl | exact World.drewN_drewN⟩, steps_next hs.out hst.out⟩
          case measure => simp [intOf]; omega
        | succ j =>
          have hlj : j < l.length := by omega
          obtain ⟨g', off', he, hg', hc'⟩ := hr.elem StarT.cells_len hlj
          injection he with he
          injection he with he1 he2 _
          subst he1 he2
          have hj0 : w.cell? ⟨g, off + j * 5, none⟩ = some (.string l[j].name) := hc' 0 _ rfl
          have i3 : (0 : Int) ≤ (j : Int) := by omega
          have i4 : (j : Int) < (l.length : Int) := by omega
          have hq1 := hide (spec_l04One_bit h0 w hsz g _ f0 f1 f2 f3 f4)
          have hwj : IntKind.i64.wrap (j : Int) = j := by rw [IntKind.wrap_i64]; omega
          clear hc hc' hr
          cases hq : Op.bytesLess l[j].name.toList l[j + 1].name.toList
          · have hst := hide (show stepOk starOk starLt l (j + 1) = false from (step_succ hlt).trans (by rw [star_at hlt h0]; exact hq))
            go_wp2_with fail
            go_quiet ((go_at_call 22; with_reducible first | exact Calls.quiet_of (hq1.out _) | exact qadd_ex (hq1.out _)))
            go_wp2
            go_ret
            exact ⟨ret_bool (valid_bad hlt hst.out).symm, (by repeat (first | exact Below.refl _ _ | assumption | refine Below.drew ?_ | refine below_drewN ?_ _ | refine Below.alloc ?_ (by first | omega | (simp; done) | (simp; omega)) _ | refine Below.setCell ?_ (by first | omega | (simp; done) | (simp; omega)) _ | refine Below.trans ?_ (Below.mono (by assumption) (by first | omega | (simp; done) | (simp; omega)))))⟩
          · have hst := hide (show stepOk starOk starLt l (j + 1) = true from (step_succ hlt).trans (by rw [star_at hlt h0]; exact hq))
            go_wp2_with fail
            go_quiet ((go_at_call 22; with_reducible first | exact Calls.quiet_of (hq1.out _) | exact qadd_ex (hq1.out _)))
            go_wp2
            go_roundw
            case rel => exact ⟨j + 1 + 1, by omega, by go_num, ⟨_, by first | rfl | exact World.drewN_drewN⟩, steps_next hs.out hst.out⟩
            case measure => simp [intOf]; omega
    · obtain rfl : k = l.length := by omega
      clear hr
      go_wp2
      go_ret
      exact ⟨ret_bool (by rw [valid_good hs.out]; by_cases h : l.length ≤ 60 <;> simp [h] <;> omega), (by repeat (first | exact Below.refl _ _ | assumption | refine Below.drew ?_ | refine below_drewN ?_ _ | refine Below.alloc ?_ (by first | omega | (simp; done) | (simp; omega)) _ | refine Below.setCell ?_ (by first | omega | (simp; done) | (simp; omega)) _ | refine Below.trans ?_ (Below.mono (by assumption) (by first | omega | (simp; done) | (simp; omega)))))⟩
theorem valStar_end : True := trivial
end Go.Proofs.Ythgppfbepfgelaa
