/-
  Contracts: an element added to a list of stars, both sides.
-/
import Derived.Test.YtldgelkgobocdaaAddS
import Derived.Deep.QuietTactic
import Derived.BigQuiet
namespace Go.Proofs.Ytldgelkgobocdaa
open Go.RowKit Pl
set_option linter.unusedVariables false
set_option linter.unusedSimpArgs false
def addStar (l : List StarT) (x : StarT) : List StarT × Int := if validB starOk starLt 60 l = true then (if starOk x = true then (if findStar l x.name < 0 then (if l.length = 60 then ([], 5) else (insL l (insP (fun y : StarT => y.name.toList) l x.name.toList) x, 0)) else ([], 4)) else ([], 2)) else ([], 1)
theorem addStar_le (l : List StarT) (x : StarT) : (addStar l x).1.length ≤ l.length + 1 := by
  unfold addStar
  repeat' split
  all_goals first | exact Nat.le_of_eq (insL_len insP_le) | simp
theorem addStar_max (l : List StarT) (x : StarT) : (addStar l x).1.length ≤ 1000 := by
  unfold addStar
  split
  · rename_i h
    have hl := valid_len h
    repeat' split
    all_goals first | (rw [insL_len insP_le]; omega) | simp
  · simp
theorem ret_slc {A : Option Addr} {m n c : Nat} {code : Int} (h : m = n) : Ending.returned (.tuple #[.slice A n c, .int .i64 code]) = .returned (.tuple #[.slice A m c, .int .i64 code]) := by rw [h]
/-- No such name. -/
theorem no_Star {l : List StarT} {s : ByteArray} (h : findStar l s < 0) (j : Nat) (hj : j < l.length) : (l[j].name.toList == s.toList) = false := by
  cases hq : (l[j].name.toList == s.toList)
  · rfl
  · exfalso
    have : ∀ (l : List StarT) (j : Nat) (hj : j < l.length), starIs s l[j] = true → ¬ idxBy (starIs s) l < 0 := by
      intro l
      induction l with
      | nil => intro j hj; simp at hj
      | cons y t ih =>
        intro j hj h1 h2
        unfold idxBy at h2
        split at h2
        · omega
        · rename_i h3
          cases j with
          | zero => exact h3 h1
          | succ j =>
            have h4 := ih j (by simp at hj; omega) (by simpa using h1)
            rw [if_neg h4] at h2
            omega
    exact this l j hj hq h
theorem up_Star {l : List StarT} (h : validB starOk starLt 60 l = true) : Up (fun y : StarT => y.name.toList) l := fun j hj => valid_lt h j hj
theorem cloHas_any {name : ByteArray} {asc : Int} {dec : Int} {bri : Int} {fai : Int} (s : ByteArray) (g1 : Nat) (w : World) (b : Bool) (hb : (name.toList == s.toList) = b) (k : w.cell? ⟨g1, 0, none⟩ = some (.string s)) : Calls Try.prog 132 #[.agg #[.string name, .int .i64 asc, .int .i64 dec, .int .i64 bri, .int .i64 fai], .pointer (some ⟨g1, 0, none⟩)] w fun e w' => e = .returned (.bool b) ∧ Below w.heap.size w w' := by
  have HB := hide hb
  clear hb
  have hz := World.block_lt_of_cell? w _ k
  have k2 := ((Below.alloc (Below.refl w.heap.size w) (Nat.le_refl _) (.cells #[.string name, .int .i64 asc, .int .i64 dec, .int .i64 bri, .int .i64 fai] 85)).cell (p := ⟨g1, 0, none⟩) hz).trans k
  go_enter Try.func132, Try.ntmps132
  go_wp2
  go_ret
  exact ⟨ret_bool HB.out, (by repeat (first | exact Below.refl _ _ | assumption | refine Below.drew ?_ | refine below_drewN ?_ _ | refine Below.alloc ?_ (by first | omega | (simp; done) | (simp; omega)) _ | refine Below.setCell ?_ (by first | omega | (simp; done) | (simp; omega)) _ | refine Below.trans ?_ (Below.mono (by assumption) (by first | omega | (simp; done) | (simp; omega)))))⟩
set_option maxHeartbeats 1000000 in
theorem IndexHas_any (A : Option Addr) (c : Nat) (l : List StarT) (s : ByteArray) (g1 : Nat) (w : World) (hn : l.length ≤ 1048576) (hr : Rd w w.heap.size 5 A l.length (l.flatMap StarT.cells)) (h1 : w.cell? ⟨g1, 0, none⟩ = some (.string s)) :
    Calls Try.prog 118 #[.slice A l.length c, .func (.func 132) #[] #[.pointer (some ⟨g1, 0, none⟩)]] w fun e w' => e = .returned (.int .i64 (findStar l s)) ∧ Below w.heap.size w w' := by
  have hz := World.block_lt_of_cell? w _ h1
  go_enter Try.func118, Try.ntmps118
  go_wp2_with fail
  go_loopw [8] (fun i wr => ∃ k : Nat, k ≤ l.length ∧ i = .int .i64 k ∧ Below w.heap.size w wr ∧ Hid (∀ j (h : j < k) (h' : j < l.length), starIs s (l[j]'h') = false)) (fun i _ => l.length - (intOf i).toNat)
  case atStart => exact ⟨0, by omega, rfl, (by repeat (first | exact Below.refl _ _ | assumption | refine Below.drew ?_ | refine below_drewN ?_ _ | refine Below.alloc ?_ (by first | omega | (simp; done) | (simp; omega)) _ | refine Below.setCell ?_ (by first | omega | (simp; done) | (simp; omega)) _ | refine Below.trans ?_ (Below.mono (by assumption) (by first | omega | (simp; done) | (simp; omega))))), fun j hj => absurd hj (by omega)⟩
  case round =>
    obtain ⟨k, hk, rfl, hb, hs⟩ := hrel
    have Hb := hide hb
    by_cases hlt : k < l.length
    · obtain ⟨g, off, rfl, hg, hc⟩ := hr.elem StarT.cells_len hlt
      have f0 : wr.cell? ⟨g, off + k * 5, none⟩ = some (.string l[k].name) := (hb.cell (p := ⟨g, off + k * 5, none⟩) hg).trans (hc 0 _ rfl)
      have f1 : wr.cell? ⟨g, off + k * 5 + 1, none⟩ = some (.int .i64 l[k].asc) := (hb.cell (p := ⟨g, off + k * 5 + 1, none⟩) hg).trans (hc 1 _ rfl)
      have f2 : wr.cell? ⟨g, off + k * 5 + 2, none⟩ = some (.int .i64 l[k].dec) := (hb.cell (p := ⟨g, off + k * 5 + 2, none⟩) hg).trans (hc 2 _ rfl)
      have f3 : wr.cell? ⟨g, off + k * 5 + 3, none⟩ = some (.int .i64 l[k].bri) := (hb.cell (p := ⟨g, off + k * 5 + 3, none⟩) hg).trans (hc 3 _ rfl)
      have f4 : wr.cell? ⟨g, off + k * 5 + 4, none⟩ = some (.int .i64 l[k].fai) := (hb.cell (p := ⟨g, off + k * 5 + 4, none⟩) hg).trans (hc 4 _ rfl)
      have h2 : wr.cell? ⟨g1, 0, none⟩ = some (.string s) := (hb.cell (p := ⟨g1, 0, none⟩) hz).trans h1
      have i1 : (0 : Int) ≤ (k : Int) := by omega
      have i2 : (k : Int) < (l.length : Int) := by omega
      cases hq : starIs s l[k]
      · have hst := hide hq
        clear hc hr hb h1
        go_wp2_with fail
        refine (cloHas_any s g1 _ false hst.out (by assumption)).mono ?_
        rintro e w1 ⟨rfl, hb1⟩
        go_wp2
        go_roundw
        case rel =>
          refine ⟨k + 1, by omega, by go_num, Hb.out.trans (hb1.mono Hb.out.size), fun j hj hj' => ?_⟩
          rcases Nat.lt_or_ge j k with h0 | h0
          · exact hs.out j h0 hj'
          · have : j = k := by omega
            subst this; exact hst.out
        case measure => simp [intOf]; omega
      · have hst := hide hq
        clear hc hr hb h1
        go_wp2_with fail
        refine (cloHas_any s g1 _ true hst.out (by assumption)).mono ?_
        rintro e w1 ⟨rfl, hb1⟩
        go_wp2
        go_ret
        exact ⟨ret_int (idxBy_hit hlt (fun i hi' => hs.out i hi' (by omega)) hst.out).symm, Hb.out.trans (hb1.mono Hb.out.size)⟩
    · obtain rfl : k = l.length := by omega
      clear hr hb
      go_wp2
      go_ret
      exact ⟨ret_int (idxBy_none (fun i hi' => hs.out i hi' hi')).symm, Hb.out⟩
theorem hasStar_any (A : Option Addr) (c : Nat) (l : List StarT) (s : ByteArray) (w : World) (hn : l.length ≤ 1048576) (hr : Rd w w.heap.size 5 A l.length (l.flatMap StarT.cells)) :
    Calls Try.prog 108 #[.slice A l.length c, .string s] w fun e w' => e = .returned (.bool (decide (0 ≤ findStar l s))) ∧ Below w.heap.size w w' := by
  have key : ∀ (g1 : Nat) (W : World) (hr : Rd W W.heap.size 5 A l.length (l.flatMap StarT.cells)) (h1 : W.cell? ⟨g1, 0, none⟩ = some (.string s)), Calls Try.prog 131 #[.slice A l.length c, .func (.func 132) #[] #[.pointer (some ⟨g1, 0, none⟩)]] W fun e w' => e = .returned (.bool (decide (0 ≤ findStar l s))) ∧ Below W.heap.size W w' := by
    intro g1 W hr h1
    have HR := hide hr
    have H1 := hide h1
    clear hr h1
    go_enter Try.func131, Try.ntmps131
    go_wp2_with fail
    refine (IndexHas_any A c l s g1 _ hn HR.out H1.out).mono ?_
    rintro e w1 ⟨rfl, b⟩
    have B1 := hide b
    clear b
    go_wp2
    go_ret
    exact ⟨rfl, B1.out⟩
  have HR := hide (((hr.below (Below.alloc (Below.refl w.heap.size w) (Nat.le_refl _) (.cells #[.string s] 9))).more (B' := (w.alloc (.cells #[.string s] 9)).heap.size) (by simp)))
  clear hr
  go_enter Try.func108, Try.ntmps108
  go_wp2_with fail
  refine (key w.heap.size _ HR.out (by simp [go_sem])).mono ?_
  rintro e w1 ⟨rfl, b⟩
  have B1 := hide (((Below.refl w.heap.size w).alloc (Nat.le_refl _) (.cells #[.string s] 9)).trans (b.mono (by simp)))
  clear b
  go_wp2
  go_ret
  exact ⟨rfl, B1.out⟩
theorem rd_take {α : Type} {f : α → List Value} {k : Nat} (hk : ∀ x, (f x).length = k) {w : World} {B g off : Nat} {l : List α} (h : Rd w B k (some ⟨g, off, none⟩) l.length (l.flatMap f)) {j : Nat} (hj : j ≤ l.length) : ∀ t u, ((l.take j).flatMap f)[t]? = some u → w.cell? ((⟨g, off, none⟩ : Addr).add t) = some u := by
  intro t u hu
  have hadd : (⟨g, off, none⟩ : Addr).add t = ⟨g, off + t, none⟩ := by unfold Addr.add; split <;> simp_all
  have hl : ((l.take j).flatMap f).length = j * k := by rw [flat_len f k hk, List.length_take, Nat.min_eq_left hj]
  have ht : t < j * k := by
    rcases Nat.lt_or_ge t (j * k) with h0 | h0
    · exact h0
    · rw [List.getElem?_eq_none (by rw [hl]; exact h0)] at hu; cases hu
  have hn : 0 < l.length := by
    rcases Nat.eq_zero_or_pos l.length with h0 | h0
    · have : j = 0 := by omega
      subst this
      simp at ht
    · exact h0
  obtain ⟨g', off', he, _, hc⟩ := h.2 hn
  injection he with he
  injection he with he1 he2 _
  subst he1 he2
  rw [hadd]
  rw [← flat_take hk, List.getElem?_take_of_lt ht] at hu
  exact hc t u hu
theorem rd_drop {α : Type} {f : α → List Value} {k : Nat} (hk : ∀ x, (f x).length = k) {w : World} {B g off : Nat} {l : List α} (h : Rd w B k (some ⟨g, off, none⟩) l.length (l.flatMap f)) {j : Nat} (hj : j < l.length) : ∀ t u, ((l.drop j).flatMap f)[t]? = some u → w.cell? ((⟨g, off + j * k, none⟩ : Addr).add t) = some u := by
  intro t u hu
  have hadd : (⟨g, off + j * k, none⟩ : Addr).add t = ⟨g, off + j * k + t, none⟩ := by unfold Addr.add; split <;> simp_all
  obtain ⟨g', off', he, _, hc⟩ := h.2 (by omega)
  injection he with he
  injection he with he1 he2 _
  subst he1 he2
  rw [hadd]
  rw [← flat_drop hk, List.getElem?_drop] at hu
  have := hc (j * k + t) u hu
  rw [← Nat.add_assoc] at this
  exact this
set_option maxHeartbeats 8000000 in
set_option maxRecDepth 100000 in
theorem impl_AddStar_any (g off c : Nat) (l : List StarT) (x : StarT) (w : World) (hcap : l.length ≤ c) (hn : l.length ≤ 1048576) (hsx : x.name.size ≤ maxLen) (hok : ∀ x ∈ l, x.ok) (hr : Rd w w.heap.size 5 (some ⟨g, off, none⟩) l.length (l.flatMap StarT.cells)) :
    Calls Try.prog 60 #[.slice (some ⟨g, off, none⟩) l.length c, .agg #[.string x.name, .int .i64 x.asc, .int .i64 x.dec, .int .i64 x.bri, .int .i64 x.fai]] w fun e w' => ∃ A' c', e = .returned (.tuple #[.slice A' (addStar l x).1.length c', .int .i64 (addStar l x).2]) ∧ Own w' w.heap.size 85 5 A' (addStar l x).1.length c' ((addStar l x).1.flatMap StarT.cells) ∧ Below w.heap.size w w' := by
  obtain ⟨i0, hi, hz0, hz1, hz2⟩ := info_parts info_Star
  obtain ⟨w0, hw0⟩ : ∃ w0, w0 = w.alloc (.cells #[.string x.name, .int .i64 x.asc, .int .i64 x.dec, .int .i64 x.bri, .int .i64 x.fai] 85) := ⟨_, rfl⟩
  have E0 := hide (show Below w.heap.size w w0 from hw0 ▸ (Below.refl _ _).alloc (Nat.le_refl _) _)
  have hz9 : w0.heap.size = w.heap.size + 1 := by rw [hw0]; simp
  have BX := hide (show Bk w0 w.heap.size 85 #[.string x.name, .int .i64 x.asc, .int .i64 x.dec, .int .i64 x.bri, .int .i64 x.fai] from by rw [hw0]; exact Bk.new _ _ _)
  have B0 := hide (Below.refl w0.heap.size w0)
  have HW0 := hide hw0
  have HR := hide hr
  have HO := hide hok
  clear hw0 hr hok
  cases hv : validB starOk starLt 60 l
  · rw [show addStar l x = ([], 1) from by simp [addStar, hv]]
    have HV := hide hv
    clear hv
    go_enter Try.func60, Try.ntmps60
    go_wp2_with fail
    rw [← HW0.out]
    refine (impl_ValidStars_any (some ⟨g, off, none⟩) c l _ hn HO.out ((HR.out.below (E0.out.trans (B0.out.mono E0.out.size))).more (Nat.le_trans E0.out.size B0.out.size))).mono ?_
    rintro e w1 ⟨rfl, b⟩
    rw [HV.out]
    have B1 := hide (B0.out.trans (b.mono B0.out.size))
    clear b
    go_wp2
    go_ret2
    exact ⟨none, 0, rfl, Own.none_, E0.out.trans (B1.out.mono E0.out.size)⟩
  cases hm : starOk x
  · rw [show addStar l x = ([], 2) from by simp [addStar, hv, hm]]
    have HV := hide hv
    have HM := hide hm
    clear hv hm
    go_enter Try.func60, Try.ntmps60
    go_wp2_with fail
    rw [← HW0.out]
    refine (impl_ValidStars_any (some ⟨g, off, none⟩) c l _ hn HO.out ((HR.out.below (E0.out.trans (B0.out.mono E0.out.size))).more (Nat.le_trans E0.out.size B0.out.size))).mono ?_
    rintro e w1 ⟨rfl, b⟩
    rw [HV.out]
    have B1 := hide (B0.out.trans (b.mono B0.out.size))
    clear b
    have xx := BX.out.below B1.out (by omega)
    have x0 := xx.cell 0
    have x1 := xx.cell 1
    have x2 := xx.cell 2
    have x3 := xx.cell 3
    have x4 := xx.cell 4
    simp at x0 x1 x2 x3 x4
    clear xx
    go_wp2_with fail
    refine (impl_isStar_any _ _ _ _ _ _ hsx).mono ?_
    rintro e w2 ⟨rfl, b⟩
    rw [show starB x.name x.asc x.dec x.bri x.fai = _ from HM.out]
    have B2 := hide (B1.out.trans (b.mono B1.out.size))
    clear b
    clear x0 x1 x2 x3 x4
    go_wp2
    go_ret2
    exact ⟨none, 0, rfl, Own.none_, E0.out.trans (B2.out.mono E0.out.size)⟩
  have hle := valid_len hv
  have hup := up_Star hv
  by_cases hf : findStar l x.name < 0
  rotate_left
  · rw [show addStar l x = ([], 4) from by simp [addStar, hv, hm, hf]]
    have HV := hide hv
    have HM := hide hm
    have HF := hide (show decide (0 ≤ findStar l x.name) = true from by simp; omega)
    clear hv hm
    go_enter Try.func60, Try.ntmps60
    go_wp2_with fail
    rw [← HW0.out]
    refine (impl_ValidStars_any (some ⟨g, off, none⟩) c l _ hn HO.out ((HR.out.below (E0.out.trans (B0.out.mono E0.out.size))).more (Nat.le_trans E0.out.size B0.out.size))).mono ?_
    rintro e w1 ⟨rfl, b⟩
    rw [HV.out]
    have B1 := hide (B0.out.trans (b.mono B0.out.size))
    clear b
    have xx := BX.out.below B1.out (by omega)
    have x0 := xx.cell 0
    have x1 := xx.cell 1
    have x2 := xx.cell 2
    have x3 := xx.cell 3
    have x4 := xx.cell 4
    simp at x0 x1 x2 x3 x4
    clear xx
    go_wp2_with fail
    refine (impl_isStar_any _ _ _ _ _ _ hsx).mono ?_
    rintro e w2 ⟨rfl, b⟩
    rw [show starB x.name x.asc x.dec x.bri x.fai = _ from HM.out]
    have B2 := hide (B1.out.trans (b.mono B1.out.size))
    clear b
    clear x0 x1 x2 x3 x4
    have xx := BX.out.below B2.out (by omega)
    have x0 := xx.cell 0
    have x1 := xx.cell 1
    have x2 := xx.cell 2
    have x3 := xx.cell 3
    have x4 := xx.cell 4
    simp at x0 x1 x2 x3 x4
    clear xx
    go_wp2_with fail
    refine (hasStar_any (some ⟨g, off, none⟩) c l _ _ hn ((HR.out.below (E0.out.trans (B2.out.mono E0.out.size))).more (Nat.le_trans E0.out.size B2.out.size))).mono ?_
    rintro e w3 ⟨rfl, b⟩
    rw [HF.out]
    have B3 := hide (B2.out.trans (b.mono B2.out.size))
    clear b
    clear x0 x1 x2 x3 x4
    go_wp2
    go_ret2
    exact ⟨none, 0, rfl, Own.none_, E0.out.trans (B3.out.mono E0.out.size)⟩
  have HNO := hide (fun j hj => no_Star hf j hj)
  by_cases hl : l.length = 60
  · rw [show addStar l x = ([], 5) from by simp [addStar, hv, hm, hf, hl]]
    have HV := hide hv
    have HM := hide hm
    have HF := hide (show decide (0 ≤ findStar l x.name) = false from by simp; omega)
    have hl2 : ((l.length : Int) == 60) = true := by simp; omega
    clear hv hm hf hl
    go_enter Try.func60, Try.ntmps60
    go_wp2_with fail
    rw [← HW0.out]
    refine (impl_ValidStars_any (some ⟨g, off, none⟩) c l _ hn HO.out ((HR.out.below (E0.out.trans (B0.out.mono E0.out.size))).more (Nat.le_trans E0.out.size B0.out.size))).mono ?_
    rintro e w1 ⟨rfl, b⟩
    rw [HV.out]
    have B1 := hide (B0.out.trans (b.mono B0.out.size))
    clear b
    have xx := BX.out.below B1.out (by omega)
    have x0 := xx.cell 0
    have x1 := xx.cell 1
    have x2 := xx.cell 2
    have x3 := xx.cell 3
    have x4 := xx.cell 4
    simp at x0 x1 x2 x3 x4
    clear xx
    go_wp2_with fail
    refine (impl_isStar_any _ _ _ _ _ _ hsx).mono ?_
    rintro e w2 ⟨rfl, b⟩
    rw [show starB x.name x.asc x.dec x.bri x.fai = _ from HM.out]
    have B2 := hide (B1.out.trans (b.mono B1.out.size))
    clear b
    clear x0 x1 x2 x3 x4
    have xx := BX.out.below B2.out (by omega)
    have x0 := xx.cell 0
    have x1 := xx.cell 1
    have x2 := xx.cell 2
    have x3 := xx.cell 3
    have x4 := xx.cell 4
    simp at x0 x1 x2 x3 x4
    clear xx
    go_wp2_with fail
    refine (hasStar_any (some ⟨g, off, none⟩) c l _ _ hn ((HR.out.below (E0.out.trans (B2.out.mono E0.out.size))).more (Nat.le_trans E0.out.size B2.out.size))).mono ?_
    rintro e w3 ⟨rfl, b⟩
    rw [HF.out]
    have B3 := hide (B2.out.trans (b.mono B2.out.size))
    clear b
    clear x0 x1 x2 x3 x4
    go_wp2
    go_ret2
    exact ⟨none, 0, rfl, Own.none_, E0.out.trans (B3.out.mono E0.out.size)⟩
  rw [show addStar l x = (insL l (insP (fun y : StarT => y.name.toList) l x.name.toList) x, 0) from by simp [addStar, hv, hm, hf, hl]]
  have HL := hide (insL_len (x := x) (insP_le (nm := (fun y : StarT => y.name.toList)) (l := l) (s := x.name.toList)))
  have HV := hide hv
  have HM := hide hm
  have HF := hide (show decide (0 ≤ findStar l x.name) = false from by simp; omega)
  have hl2 : ((l.length : Int) == 60) = false := by simp; omega
  have HUP := hide hup
  clear hv hm hf hup
  go_enter Try.func60, Try.ntmps60
  go_wp2_with fail
  rw [← HW0.out]
  refine (impl_ValidStars_any (some ⟨g, off, none⟩) c l _ hn HO.out ((HR.out.below (E0.out.trans (B0.out.mono E0.out.size))).more (Nat.le_trans E0.out.size B0.out.size))).mono ?_
  rintro e w1 ⟨rfl, b⟩
  rw [HV.out]
  have B1 := hide (B0.out.trans (b.mono B0.out.size))
  clear b
  have xx := BX.out.below B1.out (by omega)
  have x0 := xx.cell 0
  have x1 := xx.cell 1
  have x2 := xx.cell 2
  have x3 := xx.cell 3
  have x4 := xx.cell 4
  simp at x0 x1 x2 x3 x4
  clear xx
  go_wp2_with fail
  refine (impl_isStar_any _ _ _ _ _ _ hsx).mono ?_
  rintro e w2 ⟨rfl, b⟩
  rw [show starB x.name x.asc x.dec x.bri x.fai = _ from HM.out]
  have B2 := hide (B1.out.trans (b.mono B1.out.size))
  clear b
  clear x0 x1 x2 x3 x4
  have xx := BX.out.below B2.out (by omega)
  have x0 := xx.cell 0
  have x1 := xx.cell 1
  have x2 := xx.cell 2
  have x3 := xx.cell 3
  have x4 := xx.cell 4
  simp at x0 x1 x2 x3 x4
  clear xx
  go_wp2_with fail
  refine (hasStar_any (some ⟨g, off, none⟩) c l _ _ hn ((HR.out.below (E0.out.trans (B2.out.mono E0.out.size))).more (Nat.le_trans E0.out.size B2.out.size))).mono ?_
  rintro e w3 ⟨rfl, b⟩
  rw [HF.out]
  have B3 := hide (B2.out.trans (b.mono B2.out.size))
  clear b
  clear x0 x1 x2 x3 x4
  have xx := BX.out.below B3.out (by omega)
  have x0 := xx.cell 0
  have x1 := xx.cell 1
  have x2 := xx.cell 2
  have x3 := xx.cell 3
  have x4 := xx.cell 4
  simp at x0 x1 x2 x3 x4
  clear xx
  go_wp2_with fail
  refine (insertedS_any ⟨g, off, none⟩ c l x _ (by omega) ((HR.out.below (E0.out.trans (B3.out.mono E0.out.size))).more (Nat.le_trans E0.out.size B3.out.size))).mono ?_
  rintro e w4 ⟨A', c', rfl, v, b⟩
  have RR := hide v
  have B4 := hide (B3.out.trans (b.mono B3.out.size))
  clear v b
  go_wp2
  go_ret2
  exact ⟨A', c', ret_slc HL.out, (RR.out.base (Nat.le_trans E0.out.size B3.out.size)).fit HL.out.symm rfl, E0.out.trans (B4.out.mono E0.out.size)⟩
theorem impl_AddStar_val {l : List StarT} {x : StarT} {res : List StarT} {code : Int} (hF : (res, code) = addStar l x) (g off c : Nat) (w : World) (hcap : l.length ≤ c) (hn : l.length ≤ 1048576) (hsx : x.name.size ≤ maxLen) (hok : ∀ x ∈ l, x.ok) (hr : Rd w w.heap.size 5 (some ⟨g, off, none⟩) l.length (l.flatMap StarT.cells)) :
    Calls Try.prog 60 #[.slice (some ⟨g, off, none⟩) l.length c, .agg #[.string x.name, .int .i64 x.asc, .int .i64 x.dec, .int .i64 x.bri, .int .i64 x.fai]] w fun e w' => ∃ A' c', e = .returned (.tuple #[.slice A' res.length c', .int .i64 code]) ∧ Own w' w.heap.size 85 5 A' res.length c' (res.flatMap StarT.cells) ∧ Below w.heap.size w w' := by
  have h := impl_AddStar_any g off c l x w hcap hn hsx hok hr
  rw [← hF] at h
  exact h
theorem addPS_end : True := trivial
end Go.Proofs.Ytldgelkgobocdaa
