/-
  Contracts: an element added to a list of observers, both sides.
-/
import Derived.Test.YtldgelkgobocdaaAddO
import Derived.Deep.QuietTactic
import Derived.BigQuiet
namespace Go.Proofs.Ytldgelkgobocdaa
open Go.RowKit Pl
set_option linter.unusedVariables false
set_option linter.unusedSimpArgs false
def addObserver (l : List ObsT) (x : ObsT) : List ObsT × Int := if validB obsOk obsLt 40 l = true then (if obsOk x = true then (if findObserver l x.name < 0 then (if l.length = 40 then ([], 5) else (insL l (insP (fun y : ObsT => y.name.toList) l x.name.toList) x, 0)) else ([], 4)) else ([], 2)) else ([], 1)
theorem addObserver_le (l : List ObsT) (x : ObsT) : (addObserver l x).1.length ≤ l.length + 1 := by
  unfold addObserver
  repeat' split
  all_goals first | exact Nat.le_of_eq (insL_len insP_le) | simp
theorem addObserver_max (l : List ObsT) (x : ObsT) : (addObserver l x).1.length ≤ 1000 := by
  unfold addObserver
  split
  · rename_i h
    have hl := valid_len h
    repeat' split
    all_goals first | (rw [insL_len insP_le]; omega) | simp
  · simp
theorem ret_slc {A : Option Addr} {m n c : Nat} {code : Int} (h : m = n) : Ending.returned (.tuple #[.slice A n c, .int .i64 code]) = .returned (.tuple #[.slice A m c, .int .i64 code]) := by rw [h]
/-- No such name. -/
theorem no_Observer {l : List ObsT} {s : ByteArray} (h : findObserver l s < 0) (j : Nat) (hj : j < l.length) : (l[j].name.toList == s.toList) = false := by
  cases hq : (l[j].name.toList == s.toList)
  · rfl
  · exfalso
    have : ∀ (l : List ObsT) (j : Nat) (hj : j < l.length), obsIs s l[j] = true → ¬ idxBy (obsIs s) l < 0 := by
      intro l
      induction l with
      | nil => intro j hj; simp at hj
      | cons y t ih =>
        intro j hj h1 h2
        unfold idxBy at h2
        split at h2
        · omega
        · rename_i h3
          cases j with
          | zero => exact h3 h1
          | succ j =>
            have h4 := ih j (by simp at hj; omega) (by simpa using h1)
            rw [if_neg h4] at h2
            omega
    exact this l j hj hq h
theorem up_Observer {l : List ObsT} (h : validB obsOk obsLt 40 l = true) : Up (fun y : ObsT => y.name.toList) l := fun j hj => valid_lt h j hj
theorem rd_take {α : Type} {f : α → List Value} {k : Nat} (hk : ∀ x, (f x).length = k) {w : World} {B g off : Nat} {l : List α} (h : Rd w B k (some ⟨g, off, none⟩) l.length (l.flatMap f)) {j : Nat} (hj : j ≤ l.length) : ∀ t u, ((l.take j).flatMap f)[t]? = some u → w.cell? ((⟨g, off, none⟩ : Addr).add t) = some u := by
  intro t u hu
  have hadd : (⟨g, off, none⟩ : Addr).add t = ⟨g, off + t, none⟩ := by unfold Addr.add; split <;> simp_all
  have hl : ((l.take j).flatMap f).length = j * k := by rw [flat_len f k hk, List.length_take, Nat.min_eq_left hj]
  have ht : t < j * k := by
    rcases Nat.lt_or_ge t (j * k) with h0 | h0
    · exact h0
    · rw [List.getElem?_eq_none (by rw [hl]; exact h0)] at hu; cases hu
  have hn : 0 < l.length := by
    rcases Nat.eq_zero_or_pos l.length with h0 | h0
    · have : j = 0 := by omega
      subst this
      simp at ht
    · exact h0
  obtain ⟨g', off', he, _, hc⟩ := h.2 hn
  injection he with he
  injection he with he1 he2 _
  subst he1 he2
  rw [hadd]
  rw [← flat_take hk, List.getElem?_take_of_lt ht] at hu
  exact hc t u hu
theorem rd_drop {α : Type} {f : α → List Value} {k : Nat} (hk : ∀ x, (f x).length = k) {w : World} {B g off : Nat} {l : List α} (h : Rd w B k (some ⟨g, off, none⟩) l.length (l.flatMap f)) {j : Nat} (hj : j < l.length) : ∀ t u, ((l.drop j).flatMap f)[t]? = some u → w.cell? ((⟨g, off + j * k, none⟩ : Addr).add t) = some u := by
  intro t u hu
  have hadd : (⟨g, off + j * k, none⟩ : Addr).add t = ⟨g, off + j * k + t, none⟩ := by unfold Addr.add; split <;> simp_all
  obtain ⟨g', off', he, _, hc⟩ := h.2 (by omega)
  injection he with he
  injection he with he1 he2 _
  subst he1 he2
  rw [hadd]
  rw [← flat_drop hk, List.getElem?_drop] at hu
  have := hc (j * k + t) u hu
  rw [← Nat.add_assoc] at this
  exact this
set_option maxHeartbeats 8000000 in
set_option maxRecDepth 100000 in
theorem impl_AddObserver_any (g off c : Nat) (l : List ObsT) (x : ObsT) (w : World) (hcap : l.length ≤ c) (hn : l.length ≤ 1048576) (hsx : x.name.size ≤ maxLen) (hok : ∀ x ∈ l, x.ok) (hr : Rd w w.heap.size 2 (some ⟨g, off, none⟩) l.length (l.flatMap ObsT.cells)) :
    Calls Try.prog 56 #[.slice (some ⟨g, off, none⟩) l.length c, .agg #[.string x.name, .int .i64 x.shift]] w fun e w' => ∃ A' c', e = .returned (.tuple #[.slice A' (addObserver l x).1.length c', .int .i64 (addObserver l x).2]) ∧ Own w' w.heap.size 77 2 A' (addObserver l x).1.length c' ((addObserver l x).1.flatMap ObsT.cells) ∧ Below w.heap.size w w' := by
  obtain ⟨i0, hi, hz0, hz1, hz2⟩ := info_parts info_Observer
  obtain ⟨w0, hw0⟩ : ∃ w0, w0 = w.alloc (.cells #[.string x.name, .int .i64 x.shift] 77) := ⟨_, rfl⟩
  have E0 := hide (show Below w.heap.size w w0 from hw0 ▸ (Below.refl _ _).alloc (Nat.le_refl _) _)
  have hz9 : w0.heap.size = w.heap.size + 1 := by rw [hw0]; simp
  have BX := hide (show Bk w0 w.heap.size 77 #[.string x.name, .int .i64 x.shift] from by rw [hw0]; exact Bk.new _ _ _)
  have B0 := hide (Below.refl w0.heap.size w0)
  have HW0 := hide hw0
  have HR := hide hr
  have HO := hide hok
  clear hw0 hr hok
  cases hv : validB obsOk obsLt 40 l
  · rw [show addObserver l x = ([], 1) from by simp [addObserver, hv]]
    have HV := hide hv
    clear hv
    go_enter Try.func56, Try.ntmps56
    go_wp2_with fail
    rw [← HW0.out]
    refine (impl_ValidObservers_any (some ⟨g, off, none⟩) c l _ hn HO.out ((HR.out.below (E0.out.trans (B0.out.mono E0.out.size))).more (Nat.le_trans E0.out.size B0.out.size))).mono ?_
    rintro e w1 ⟨rfl, b⟩
    rw [HV.out]
    have B1 := hide (B0.out.trans (b.mono B0.out.size))
    clear b
    go_wp2
    go_ret2
    exact ⟨none, 0, rfl, Own.none_, E0.out.trans (B1.out.mono E0.out.size)⟩
  cases hm : obsOk x
  · rw [show addObserver l x = ([], 2) from by simp [addObserver, hv, hm]]
    have HV := hide hv
    have HM := hide hm
    clear hv hm
    go_enter Try.func56, Try.ntmps56
    go_wp2_with fail
    rw [← HW0.out]
    refine (impl_ValidObservers_any (some ⟨g, off, none⟩) c l _ hn HO.out ((HR.out.below (E0.out.trans (B0.out.mono E0.out.size))).more (Nat.le_trans E0.out.size B0.out.size))).mono ?_
    rintro e w1 ⟨rfl, b⟩
    rw [HV.out]
    have B1 := hide (B0.out.trans (b.mono B0.out.size))
    clear b
    have xx := BX.out.below B1.out (by omega)
    have x0 := xx.cell 0
    have x1 := xx.cell 1
    simp at x0 x1
    clear xx
    go_wp2_with fail
    refine (impl_isObserver_any _ _ _ hsx).mono ?_
    rintro e w2 ⟨rfl, b⟩
    rw [show obsB x.name x.shift = _ from HM.out]
    have B2 := hide (B1.out.trans (b.mono B1.out.size))
    clear b
    clear x0 x1
    go_wp2
    go_ret2
    exact ⟨none, 0, rfl, Own.none_, E0.out.trans (B2.out.mono E0.out.size)⟩
  have hle := valid_len hv
  have hup := up_Observer hv
  by_cases hf : findObserver l x.name < 0
  rotate_left
  · rw [show addObserver l x = ([], 4) from by simp [addObserver, hv, hm, hf]]
    have HV := hide hv
    have HM := hide hm
    have HF := hide (show atObserver l x.name = (findObserver l x.name, 0) from by rw [atObserver, if_neg hf])
    clear hv hm
    go_enter Try.func56, Try.ntmps56
    go_wp2_with fail
    rw [← HW0.out]
    refine (impl_ValidObservers_any (some ⟨g, off, none⟩) c l _ hn HO.out ((HR.out.below (E0.out.trans (B0.out.mono E0.out.size))).more (Nat.le_trans E0.out.size B0.out.size))).mono ?_
    rintro e w1 ⟨rfl, b⟩
    rw [HV.out]
    have B1 := hide (B0.out.trans (b.mono B0.out.size))
    clear b
    have xx := BX.out.below B1.out (by omega)
    have x0 := xx.cell 0
    have x1 := xx.cell 1
    simp at x0 x1
    clear xx
    go_wp2_with fail
    refine (impl_isObserver_any _ _ _ hsx).mono ?_
    rintro e w2 ⟨rfl, b⟩
    rw [show obsB x.name x.shift = _ from HM.out]
    have B2 := hide (B1.out.trans (b.mono B1.out.size))
    clear b
    clear x0 x1
    have xx := BX.out.below B2.out (by omega)
    have x0 := xx.cell 0
    have x1 := xx.cell 1
    simp at x0 x1
    clear xx
    go_wp2_with fail
    refine (findObserver_any (some ⟨g, off, none⟩) c l _ _ hn ((HR.out.below (E0.out.trans (B2.out.mono E0.out.size))).more (Nat.le_trans E0.out.size B2.out.size))).mono ?_
    rintro e w3 ⟨rfl, b⟩
    rw [HF.out]
    have B3 := hide (B2.out.trans (b.mono B2.out.size))
    clear b
    clear x0 x1
    go_wp2
    go_ret2
    exact ⟨none, 0, rfl, Own.none_, E0.out.trans (B3.out.mono E0.out.size)⟩
  have HNO := hide (fun j hj => no_Observer hf j hj)
  by_cases hl : l.length = 40
  · rw [show addObserver l x = ([], 5) from by simp [addObserver, hv, hm, hf, hl]]
    have HV := hide hv
    have HM := hide hm
    have HF := hide (show atObserver l x.name = (0, 3) from by rw [atObserver, if_pos hf])
    have hl2 : ((l.length : Int) == 40) = true := by simp; omega
    clear hv hm hf hl
    go_enter Try.func56, Try.ntmps56
    go_wp2_with fail
    rw [← HW0.out]
    refine (impl_ValidObservers_any (some ⟨g, off, none⟩) c l _ hn HO.out ((HR.out.below (E0.out.trans (B0.out.mono E0.out.size))).more (Nat.le_trans E0.out.size B0.out.size))).mono ?_
    rintro e w1 ⟨rfl, b⟩
    rw [HV.out]
    have B1 := hide (B0.out.trans (b.mono B0.out.size))
    clear b
    have xx := BX.out.below B1.out (by omega)
    have x0 := xx.cell 0
    have x1 := xx.cell 1
    simp at x0 x1
    clear xx
    go_wp2_with fail
    refine (impl_isObserver_any _ _ _ hsx).mono ?_
    rintro e w2 ⟨rfl, b⟩
    rw [show obsB x.name x.shift = _ from HM.out]
    have B2 := hide (B1.out.trans (b.mono B1.out.size))
    clear b
    clear x0 x1
    have xx := BX.out.below B2.out (by omega)
    have x0 := xx.cell 0
    have x1 := xx.cell 1
    simp at x0 x1
    clear xx
    go_wp2_with fail
    refine (findObserver_any (some ⟨g, off, none⟩) c l _ _ hn ((HR.out.below (E0.out.trans (B2.out.mono E0.out.size))).more (Nat.le_trans E0.out.size B2.out.size))).mono ?_
    rintro e w3 ⟨rfl, b⟩
    rw [HF.out]
    have B3 := hide (B2.out.trans (b.mono B2.out.size))
    clear b
    clear x0 x1
    go_wp2
    go_ret2
    exact ⟨none, 0, rfl, Own.none_, E0.out.trans (B3.out.mono E0.out.size)⟩
  rw [show addObserver l x = (insL l (insP (fun y : ObsT => y.name.toList) l x.name.toList) x, 0) from by simp [addObserver, hv, hm, hf, hl]]
  have HL := hide (insL_len (x := x) (insP_le (nm := (fun y : ObsT => y.name.toList)) (l := l) (s := x.name.toList)))
  have HV := hide hv
  have HM := hide hm
  have HF := hide (show atObserver l x.name = (0, 3) from by rw [atObserver, if_pos hf])
  have hl2 : ((l.length : Int) == 40) = false := by simp; omega
  have HUP := hide hup
  clear hv hm hf hup
  go_enter Try.func56, Try.ntmps56
  go_wp2_with fail
  rw [← HW0.out]
  refine (impl_ValidObservers_any (some ⟨g, off, none⟩) c l _ hn HO.out ((HR.out.below (E0.out.trans (B0.out.mono E0.out.size))).more (Nat.le_trans E0.out.size B0.out.size))).mono ?_
  rintro e w1 ⟨rfl, b⟩
  rw [HV.out]
  have B1 := hide (B0.out.trans (b.mono B0.out.size))
  clear b
  have xx := BX.out.below B1.out (by omega)
  have x0 := xx.cell 0
  have x1 := xx.cell 1
  simp at x0 x1
  clear xx
  go_wp2_with fail
  refine (impl_isObserver_any _ _ _ hsx).mono ?_
  rintro e w2 ⟨rfl, b⟩
  rw [show obsB x.name x.shift = _ from HM.out]
  have B2 := hide (B1.out.trans (b.mono B1.out.size))
  clear b
  clear x0 x1
  have xx := BX.out.below B2.out (by omega)
  have x0 := xx.cell 0
  have x1 := xx.cell 1
  simp at x0 x1
  clear xx
  go_wp2_with fail
  refine (findObserver_any (some ⟨g, off, none⟩) c l _ _ hn ((HR.out.below (E0.out.trans (B2.out.mono E0.out.size))).more (Nat.le_trans E0.out.size B2.out.size))).mono ?_
  rintro e w3 ⟨rfl, b⟩
  rw [HF.out]
  have B3 := hide (B2.out.trans (b.mono B2.out.size))
  clear b
  clear x0 x1
  have xx := BX.out.below B3.out (by omega)
  have x0 := xx.cell 0
  have x1 := xx.cell 1
  simp at x0 x1
  clear xx
  go_wp2_with fail
  refine (insertedO_any ⟨g, off, none⟩ c l x _ (by omega) ((HR.out.below (E0.out.trans (B3.out.mono E0.out.size))).more (Nat.le_trans E0.out.size B3.out.size))).mono ?_
  rintro e w4 ⟨A', c', rfl, v, b⟩
  have RR := hide v
  have B4 := hide (B3.out.trans (b.mono B3.out.size))
  clear v b
  go_wp2
  go_ret2
  exact ⟨A', c', ret_slc HL.out, (RR.out.base (Nat.le_trans E0.out.size B3.out.size)).fit HL.out.symm rfl, E0.out.trans (B4.out.mono E0.out.size)⟩
theorem impl_AddObserver_val {l : List ObsT} {x : ObsT} {res : List ObsT} {code : Int} (hF : (res, code) = addObserver l x) (g off c : Nat) (w : World) (hcap : l.length ≤ c) (hn : l.length ≤ 1048576) (hsx : x.name.size ≤ maxLen) (hok : ∀ x ∈ l, x.ok) (hr : Rd w w.heap.size 2 (some ⟨g, off, none⟩) l.length (l.flatMap ObsT.cells)) :
    Calls Try.prog 56 #[.slice (some ⟨g, off, none⟩) l.length c, .agg #[.string x.name, .int .i64 x.shift]] w fun e w' => ∃ A' c', e = .returned (.tuple #[.slice A' res.length c', .int .i64 code]) ∧ Own w' w.heap.size 77 2 A' res.length c' (res.flatMap ObsT.cells) ∧ Below w.heap.size w w' := by
  have h := impl_AddObserver_any g off c l x w hcap hn hsx hok hr
  rw [← hF] at h
  exact h
theorem addPO_end : True := trivial
end Go.Proofs.Ytldgelkgobocdaa
