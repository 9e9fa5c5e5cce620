/-
  Contracts: are two lists of records equal.
-/
import Derived.Test.YtjflebgaemgeeaaChecked
import Derived.Test.YtjflebgaemgeeaaTy
import Derived.Test.YtjflebgaemgeeaaMem2
import Derived.WalkKit
import Derived.Deep.QuietTactic
import Derived.BigQuiet
import Derived.Laws.StructEq
import Derived.Outline
namespace Go.Proofs.Ytjflebgaemgeeaa
open Go.RowKit
set_option linter.unusedVariables false
set_option linter.unusedSimpArgs false
def eqShape (d : Nat) (xs ys : Array Value) : List (Bool × TypeId × Nat) → Sem Bool
  | [] => pure true
  | (u, t, o) :: fs =>
    if u = false then do
      let a ← part t xs o
      let b ← part t ys o
      let r ← Op.equalIn d t a b
      if (!r) = true then pure false else eqShape d xs ys fs
    else eqShape d xs ys fs
def shapeOf (f : Field) : Bool × TypeId × Nat := (f.name == "_", f.type, f.offset)
theorem eqFields_shape (d : Nat) (xs ys : Array Value) : ∀ fs : List Field, Op.eqFields d xs ys fs = eqShape d xs ys (fs.map shapeOf)
  | [] => rfl
  | f :: fs => by
    simp only [Op.eqFields, List.map_cons, shapeOf, eqShape]
    by_cases h : f.name = "_"
    · simp [h, eqFields_shape d xs ys fs]
    · simp [h, eqFields_shape d xs ys fs]
theorem u_str : Try.prog.underlying 9 = some .string := by kernel_rfl
theorem u_int : Try.prog.underlying 2 = some (.int .i64) := by kernel_rfl
theorem u_bool : Try.prog.underlying 4 = some .bool := by kernel_rfl
theorem ret_boolE {a b : Bool} (h : a = b) : Ending.returned (.bool a) = .returned (.bool b) := by rw [h]
section
variable {α : Type}
/-- Equal lists, by a test on elements. -/
def eqL (eq : α → α → Bool) (a b : List α) : Bool := decide (a.length = b.length) && (List.range a.length).all fun i => match a[i]?, b[i]? with | some x, some y => eq x y | _, _ => true
variable {eq : α → α → Bool} {a b : List α}
theorem eqL_len (h : a.length ≠ b.length) : eqL eq a b = false := by simp [eqL, h]
theorem eqL_bad {k : Nat} (h1 : k < a.length) (h2 : k < b.length) (h : eq (a[k]'h1) (b[k]'h2) = false) : eqL eq a b = false := by
  unfold eqL
  rw [Bool.and_eq_false_iff]
  right
  rw [List.all_eq_false]
  exact ⟨k, by simpa using h1, by simp [List.getElem?_eq_getElem h1, List.getElem?_eq_getElem h2, h]⟩
theorem eqL_good (hl : a.length = b.length) (h : ∀ i (h1 : i < a.length) (h2 : i < b.length), eq (a[i]'h1) (b[i]'h2) = true) : eqL eq a b = true := by
  unfold eqL
  rw [Bool.and_eq_true, List.all_eq_true]
  refine ⟨by simpa using hl, fun i hi => ?_⟩
  have h1 : i < a.length := by simpa using hi
  rw [List.getElem?_eq_getElem h1, List.getElem?_eq_getElem (show i < b.length by omega)]
  exact h i h1 (by omega)
end
def obsEq (x y : ObsT) : Bool := (x.name.toList == y.name.toList) && (x.shift == y.shift)
theorem u_obs : Try.prog.underlying 90 = some (.struct (Try.prog.fieldsOf 90)) := by kernel_rfl
theorem s_obs : Try.prog.stoodInHeld 90 = false := by kernel_rfl
theorem g_obs : Try.prog.eqGuardType Try.prog.depth 90 = false := by kernel_rfl
theorem f_obs : (Try.prog.fieldsOf 90).toList.map shapeOf = [(false, 9, 0), (false, 2, 1)] := by kernel_rfl
theorem neq_obs (name name' : ByteArray) (shift shift' : Int) (W : World) : (binOp .neq 90 (.agg #[.string name, .int .i64 shift]) (.agg #[.string name', .int .i64 shift'])).run Try.prog W = .ok (.bool (!((name.toList == name'.toList) && (shift == shift')))) W := by
  rw [run_neq_struct, run_equalIn_agg _ _ _ _ _ u_obs s_obs, eqFields_shape, f_obs]
  simp [eqShape, go_sem, part, run_equalIn_string _ _ _ _ _ u_str, run_equalIn_int _ _ _ _ _ _ _ u_int, run_equalIn_bool' _ _ _ _ _ u_bool]
  (cases h0 : (name.toList == name'.toList)) <;> (cases h1 : (shift == shift')) <;> simp_all
set_option maxHeartbeats 2000000 in
theorem EqualObservers_any (A A' : Option Addr) (c c' : Nat) (a b : List ObsT) (w : World) (hn : a.length ≤ 1048576) (hn' : b.length ≤ 1048576) (hr : Rd w w.heap.size 2 A a.length (a.flatMap ObsT.cells)) (hr' : Rd w w.heap.size 2 A' b.length (b.flatMap ObsT.cells)) :
    Calls Try.prog 79 #[.slice A a.length c, .slice A' b.length c'] w fun e w' => e = .returned (.bool (eqL obsEq a b)) ∧ Below w.heap.size w w' := by
  have HR := hide hr
  have HR' := hide hr'
  clear hr hr'
  by_cases hl : a.length = b.length
  case neg =>
    have e1 : ((a.length : Int) == (b.length : Int)) = false := by simp; omega
    go_enter Try.func79, Try.ntmps79
    go_wp2
    go_ret
    exact ⟨ret_boolE (eqL_len hl).symm, (by repeat (first | exact Below.refl _ _ | assumption | refine Below.drew ?_ | refine below_drewN ?_ _ | refine Below.alloc ?_ (by first | omega | (simp; done) | (simp; omega)) _ | refine Below.setCell ?_ (by first | omega | (simp; done) | (simp; omega)) _ | refine Below.trans ?_ (Below.mono (by assumption) (by first | omega | (simp; done) | (simp; omega)))))⟩
  have e1 : ((a.length : Int) == (b.length : Int)) = true := by simp; omega
  have HL := hide hl
  have hl1 : a.length ≤ b.length := by omega
  have hl2 : b.length ≤ a.length := by omega
  clear hl
  go_enter Try.func79, Try.ntmps79
  go_wp2_with fail
  go_loopw [13] (fun i wr => ∃ k : Nat, k ≤ a.length ∧ i = .int .i64 k ∧ (∃ n, wr = w.drewN n) ∧ Hid (∀ i (h : i < k) (h1 : i < a.length) (h2 : i < b.length), obsEq (a[i]'h1) (b[i]'h2) = true)) (fun i _ => a.length - (intOf i).toNat)
  case atStart => exact ⟨0, by omega, rfl, ⟨0, rfl⟩, fun i hi => absurd hi (by omega)⟩
  case round =>
    obtain ⟨k, hk, rfl, ⟨n, rfl⟩, hs⟩ := hrel
    by_cases hlt : k < a.length
    · have hlt' : k < b.length := by omega
      obtain ⟨g, off, rfl, hg, hc⟩ := HR.out.elem ObsT.cells_len hlt
      obtain ⟨g', off', rfl, hg', hc'⟩ := HR'.out.elem ObsT.cells_len hlt'
      have f0 : w.cell? ⟨g, off + k * 2, none⟩ = some (.string a[k].name) := hc 0 _ rfl
      have h0 : w.cell? ⟨g', off' + k * 2, none⟩ = some (.string b[k].name) := hc' 0 _ rfl
      have f1 : w.cell? ⟨g, off + k * 2 + 1, none⟩ = some (.int .i64 a[k].shift) := hc 1 _ rfl
      have h1 : w.cell? ⟨g', off' + k * 2 + 1, none⟩ = some (.int .i64 b[k].shift) := hc' 1 _ rfl
      have i1 : (0 : Int) ≤ (k : Int) := by omega
      have i2 : (k : Int) < (a.length : Int) := by omega
      have i3 : (k : Int) < (b.length : Int) := by omega
      clear hc hc'
      cases hq : obsEq a[k] b[k]
      · have hne : ∀ W, (binOp .neq 90 (.agg #[.string a[k].name, .int .i64 a[k].shift]) (.agg #[.string b[k].name, .int .i64 b[k].shift])).run Try.prog W = .ok (.bool true) W := fun W => (neq_obs _ _ _ _ W).trans (by rw [show ((a[k].name.toList == b[k].name.toList) && (a[k].shift == b[k].shift)) = obsEq a[k] b[k] from rfl, hq]; rfl)
        have hgd : ∀ x y W, (eqGuard .neq 90 x y (.agg #[.string a[k].name, .int .i64 a[k].shift]) (.agg #[.string b[k].name, .int .i64 b[k].shift])).run Try.prog W = .ok () W := fun x y W => run_eqGuard_agg W _ _ _ _ _ _ g_obs
        have hq' := hide hq
        clear hq
        go_wp2_with fail
        go_quiet (fail)
        go_wp2
        go_ret
        exact ⟨ret_boolE (eqL_bad hlt hlt' hq'.out).symm, (by repeat (first | exact Below.refl _ _ | assumption | refine Below.drew ?_ | refine below_drewN ?_ _ | refine Below.alloc ?_ (by first | omega | (simp; done) | (simp; omega)) _ | refine Below.setCell ?_ (by first | omega | (simp; done) | (simp; omega)) _ | refine Below.trans ?_ (Below.mono (by assumption) (by first | omega | (simp; done) | (simp; omega)))))⟩
      · have hne : ∀ W, (binOp .neq 90 (.agg #[.string a[k].name, .int .i64 a[k].shift]) (.agg #[.string b[k].name, .int .i64 b[k].shift])).run Try.prog W = .ok (.bool false) W := fun W => (neq_obs _ _ _ _ W).trans (by rw [show ((a[k].name.toList == b[k].name.toList) && (a[k].shift == b[k].shift)) = obsEq a[k] b[k] from rfl, hq]; rfl)
        have hgd : ∀ x y W, (eqGuard .neq 90 x y (.agg #[.string a[k].name, .int .i64 a[k].shift]) (.agg #[.string b[k].name, .int .i64 b[k].shift])).run Try.prog W = .ok () W := fun x y W => run_eqGuard_agg W _ _ _ _ _ _ g_obs
        have hq' := hide hq
        clear hq
        go_wp2_with fail
        go_quiet (fail)
        go_wp2
        go_round
        case rel =>
          refine ⟨k + 1, by omega, by go_num, ⟨_, by first | rfl | exact World.drewN_drewN _ _ _⟩, fun j hj h1 h2 => ?_⟩
          rcases Nat.lt_or_ge j k with h0 | h0
          · exact hs.out j h0 h1 h2
          · have : j = k := by omega
            subst this; exact hq'.out
        case measure => simp [intOf]; omega
    · obtain rfl : k = a.length := by omega
      go_wp2
      go_ret
      exact ⟨ret_boolE (eqL_good HL.out (fun i h1 h2 => hs.out i h1 h1 h2)).symm, (by repeat (first | exact Below.refl _ _ | assumption | refine Below.drew ?_ | refine below_drewN ?_ _ | refine Below.alloc ?_ (by first | omega | (simp; done) | (simp; omega)) _ | refine Below.setCell ?_ (by first | omega | (simp; done) | (simp; omega)) _ | refine Below.trans ?_ (Below.mono (by assumption) (by first | omega | (simp; done) | (simp; omega)))))⟩
set_option maxHeartbeats 2000000 in
theorem spec_SameObservers_any (A A' : Option Addr) (c c' : Nat) (a b : List ObsT) (w : World) (hn : a.length ≤ 1048576) (hn' : b.length ≤ 1048576) (hr : Rd w w.heap.size 2 A a.length (a.flatMap ObsT.cells)) (hr' : Rd w w.heap.size 2 A' b.length (b.flatMap ObsT.cells)) :
    Calls Try.prog 31 #[.slice A a.length c, .slice A' b.length c'] w fun e w' => e = .returned (.bool (eqL obsEq a b)) ∧ Below w.heap.size w w' := by
  have HR := hide hr
  have HR' := hide hr'
  clear hr hr'
  by_cases hl : a.length = b.length
  case neg =>
    have e1 : ((a.length : Int) == (b.length : Int)) = false := by simp; omega
    go_enter Try.func31, Try.ntmps31
    go_wp2
    go_ret
    exact ⟨ret_boolE (eqL_len hl).symm, (by repeat (first | exact Below.refl _ _ | assumption | refine Below.drew ?_ | refine below_drewN ?_ _ | refine Below.alloc ?_ (by first | omega | (simp; done) | (simp; omega)) _ | refine Below.setCell ?_ (by first | omega | (simp; done) | (simp; omega)) _ | refine Below.trans ?_ (Below.mono (by assumption) (by first | omega | (simp; done) | (simp; omega)))))⟩
  have e1 : ((a.length : Int) == (b.length : Int)) = true := by simp; omega
  have HL := hide hl
  have hl1 : a.length ≤ b.length := by omega
  have hl2 : b.length ≤ a.length := by omega
  clear hl
  go_enter Try.func31, Try.ntmps31
  go_wp2_with fail
  go_loopw [5] (fun i wr => ∃ k : Nat, k ≤ a.length ∧ i = .int .i64 k ∧ (∃ n, wr = w.drewN n) ∧ Hid (∀ i (h : i < k) (h1 : i < a.length) (h2 : i < b.length), obsEq (a[i]'h1) (b[i]'h2) = true)) (fun i _ => a.length - (intOf i).toNat)
  case atStart => exact ⟨0, by omega, rfl, ⟨0, rfl⟩, fun i hi => absurd hi (by omega)⟩
  case round =>
    obtain ⟨k, hk, rfl, ⟨n, rfl⟩, hs⟩ := hrel
    by_cases hlt : k < a.length
    · have hlt' : k < b.length := by omega
      obtain ⟨g, off, rfl, hg, hc⟩ := HR.out.elem ObsT.cells_len hlt
      obtain ⟨g', off', rfl, hg', hc'⟩ := HR'.out.elem ObsT.cells_len hlt'
      have f0 : w.cell? ⟨g, off + k * 2, none⟩ = some (.string a[k].name) := hc 0 _ rfl
      have h0 : w.cell? ⟨g', off' + k * 2, none⟩ = some (.string b[k].name) := hc' 0 _ rfl
      have f1 : w.cell? ⟨g, off + k * 2 + 1, none⟩ = some (.int .i64 a[k].shift) := hc 1 _ rfl
      have h1 : w.cell? ⟨g', off' + k * 2 + 1, none⟩ = some (.int .i64 b[k].shift) := hc' 1 _ rfl
      have i1 : (0 : Int) ≤ (k : Int) := by omega
      have i2 : (k : Int) < (a.length : Int) := by omega
      have i3 : (k : Int) < (b.length : Int) := by omega
      clear hc hc'
      cases hq : obsEq a[k] b[k]
      · have hne : ∀ W, (binOp .neq 90 (.agg #[.string a[k].name, .int .i64 a[k].shift]) (.agg #[.string b[k].name, .int .i64 b[k].shift])).run Try.prog W = .ok (.bool true) W := fun W => (neq_obs _ _ _ _ W).trans (by rw [show ((a[k].name.toList == b[k].name.toList) && (a[k].shift == b[k].shift)) = obsEq a[k] b[k] from rfl, hq]; rfl)
        have hgd : ∀ x y W, (eqGuard .neq 90 x y (.agg #[.string a[k].name, .int .i64 a[k].shift]) (.agg #[.string b[k].name, .int .i64 b[k].shift])).run Try.prog W = .ok () W := fun x y W => run_eqGuard_agg W _ _ _ _ _ _ g_obs
        have hq' := hide hq
        clear hq
        go_wp2_with fail
        go_quiet (fail)
        go_wp2
        go_ret
        exact ⟨ret_boolE (eqL_bad hlt hlt' hq'.out).symm, (by repeat (first | exact Below.refl _ _ | assumption | refine Below.drew ?_ | refine below_drewN ?_ _ | refine Below.alloc ?_ (by first | omega | (simp; done) | (simp; omega)) _ | refine Below.setCell ?_ (by first | omega | (simp; done) | (simp; omega)) _ | refine Below.trans ?_ (Below.mono (by assumption) (by first | omega | (simp; done) | (simp; omega)))))⟩
      · have hne : ∀ W, (binOp .neq 90 (.agg #[.string a[k].name, .int .i64 a[k].shift]) (.agg #[.string b[k].name, .int .i64 b[k].shift])).run Try.prog W = .ok (.bool false) W := fun W => (neq_obs _ _ _ _ W).trans (by rw [show ((a[k].name.toList == b[k].name.toList) && (a[k].shift == b[k].shift)) = obsEq a[k] b[k] from rfl, hq]; rfl)
        have hgd : ∀ x y W, (eqGuard .neq 90 x y (.agg #[.string a[k].name, .int .i64 a[k].shift]) (.agg #[.string b[k].name, .int .i64 b[k].shift])).run Try.prog W = .ok () W := fun x y W => run_eqGuard_agg W _ _ _ _ _ _ g_obs
        have hq' := hide hq
        clear hq
        go_wp2_with fail
        go_quiet (fail)
        go_wp2
        go_round
        case rel =>
          refine ⟨k + 1, by omega, by go_num, ⟨_, by first | rfl | exact World.drewN_drewN _ _ _⟩, fun j hj h1 h2 => ?_⟩
          rcases Nat.lt_or_ge j k with h0 | h0
          · exact hs.out j h0 h1 h2
          · have : j = k := by omega
            subst this; exact hq'.out
        case measure => simp [intOf]; omega
    · obtain rfl : k = a.length := by omega
      go_wp2
      go_ret
      exact ⟨ret_boolE (eqL_good HL.out (fun i h1 h2 => hs.out i h1 h1 h2)).symm, (by repeat (first | exact Below.refl _ _ | assumption | refine Below.drew ?_ | refine below_drewN ?_ _ | refine Below.alloc ?_ (by first | omega | (simp; done) | (simp; omega)) _ | refine Below.setCell ?_ (by first | omega | (simp; done) | (simp; omega)) _ | refine Below.trans ?_ (Below.mono (by assumption) (by first | omega | (simp; done) | (simp; omega)))))⟩
def starEq (x y : StarT) : Bool := (x.name.toList == y.name.toList) && (x.asc == y.asc) && (x.dec == y.dec) && (x.bri == y.bri) && (x.fai == y.fai)
theorem u_star : Try.prog.underlying 66 = some (.struct (Try.prog.fieldsOf 66)) := by kernel_rfl
theorem s_star : Try.prog.stoodInHeld 66 = false := by kernel_rfl
theorem g_star : Try.prog.eqGuardType Try.prog.depth 66 = false := by kernel_rfl
theorem f_star : (Try.prog.fieldsOf 66).toList.map shapeOf = [(false, 9, 0), (false, 2, 1), (false, 2, 2), (false, 2, 3), (false, 2, 4)] := by kernel_rfl
theorem neq_star (name name' : ByteArray) (asc asc' : Int) (dec dec' : Int) (bri bri' : Int) (fai fai' : Int) (W : World) : (binOp .neq 66 (.agg #[.string name, .int .i64 asc, .int .i64 dec, .int .i64 bri, .int .i64 fai]) (.agg #[.string name', .int .i64 asc', .int .i64 dec', .int .i64 bri', .int .i64 fai'])).run Try.prog W = .ok (.bool (!((name.toList == name'.toList) && (asc == asc') && (dec == dec') && (bri == bri') && (fai == fai')))) W := by
  rw [run_neq_struct, run_equalIn_agg _ _ _ _ _ u_star s_star, eqFields_shape, f_star]
  simp [eqShape, go_sem, part, run_equalIn_string _ _ _ _ _ u_str, run_equalIn_int _ _ _ _ _ _ _ u_int, run_equalIn_bool' _ _ _ _ _ u_bool]
  (cases h0 : (name.toList == name'.toList)) <;> (cases h1 : (asc == asc')) <;> (cases h2 : (dec == dec')) <;> (cases h3 : (bri == bri')) <;> (cases h4 : (fai == fai')) <;> simp_all
set_option maxHeartbeats 2000000 in
theorem EqualStars_any (A A' : Option Addr) (c c' : Nat) (a b : List StarT) (w : World) (hn : a.length ≤ 1048576) (hn' : b.length ≤ 1048576) (hr : Rd w w.heap.size 5 A a.length (a.flatMap StarT.cells)) (hr' : Rd w w.heap.size 5 A' b.length (b.flatMap StarT.cells)) :
    Calls Try.prog 81 #[.slice A a.length c, .slice A' b.length c'] w fun e w' => e = .returned (.bool (eqL starEq a b)) ∧ Below w.heap.size w w' := by
  have HR := hide hr
  have HR' := hide hr'
  clear hr hr'
  by_cases hl : a.length = b.length
  case neg =>
    have e1 : ((a.length : Int) == (b.length : Int)) = false := by simp; omega
    go_enter Try.func81, Try.ntmps81
    go_wp2
    go_ret
    exact ⟨ret_boolE (eqL_len hl).symm, (by repeat (first | exact Below.refl _ _ | assumption | refine Below.drew ?_ | refine below_drewN ?_ _ | refine Below.alloc ?_ (by first | omega | (simp; done) | (simp; omega)) _ | refine Below.setCell ?_ (by first | omega | (simp; done) | (simp; omega)) _ | refine Below.trans ?_ (Below.mono (by assumption) (by first | omega | (simp; done) | (simp; omega)))))⟩
  have e1 : ((a.length : Int) == (b.length : Int)) = true := by simp; omega
  have HL := hide hl
  have hl1 : a.length ≤ b.length := by omega
  have hl2 : b.length ≤ a.length := by omega
  clear hl
  go_enter Try.func81, Try.ntmps81
  go_wp2_with fail
  go_loopw [13] (fun i wr => ∃ k : Nat, k ≤ a.length ∧ i = .int .i64 k ∧ (∃ n, wr = w.drewN n) ∧ Hid (∀ i (h : i < k) (h1 : i < a.length) (h2 : i < b.length), starEq (a[i]'h1) (b[i]'h2) = true)) (fun i _ => a.length - (intOf i).toNat)
  case atStart => exact ⟨0, by omega, rfl, ⟨0, rfl⟩, fun i hi => absurd hi (by omega)⟩
  case round =>
    obtain ⟨k, hk, rfl, ⟨n, rfl⟩, hs⟩ := hrel
    by_cases hlt : k < a.length
    · have hlt' : k < b.length := by omega
      obtain ⟨g, off, rfl, hg, hc⟩ := HR.out.elem StarT.cells_len hlt
      obtain ⟨g', off', rfl, hg', hc'⟩ := HR'.out.elem StarT.cells_len hlt'
      have f0 : w.cell? ⟨g, off + k * 5, none⟩ = some (.string a[k].name) := hc 0 _ rfl
      have h0 : w.cell? ⟨g', off' + k * 5, none⟩ = some (.string b[k].name) := hc' 0 _ rfl
      have f1 : w.cell? ⟨g, off + k * 5 + 1, none⟩ = some (.int .i64 a[k].asc) := hc 1 _ rfl
      have h1 : w.cell? ⟨g', off' + k * 5 + 1, none⟩ = some (.int .i64 b[k].asc) := hc' 1 _ rfl
      have f2 : w.cell? ⟨g, off + k * 5 + 2, none⟩ = some (.int .i64 a[k].dec) := hc 2 _ rfl
      have h2 : w.cell? ⟨g', off' + k * 5 + 2, none⟩ = some (.int .i64 b[k].dec) := hc' 2 _ rfl
      have f3 : w.cell? ⟨g, off + k * 5 + 3, none⟩ = some (.int .i64 a[k].bri) := hc 3 _ rfl
      have h3 : w.cell? ⟨g', off' + k * 5 + 3, none⟩ = some (.int .i64 b[k].bri) := hc' 3 _ rfl
      have f4 : w.cell? ⟨g, off + k * 5 + 4, none⟩ = some (.int .i64 a[k].fai) := hc 4 _ rfl
      have h4 : w.cell? ⟨g', off' + k * 5 + 4, none⟩ = some (.int .i64 b[k].fai) := hc' 4 _ rfl
      have i1 : (0 : Int) ≤ (k : Int) := by omega
      have i2 : (k : Int) < (a.length : Int) := by omega
      have i3 : (k : Int) < (b.length : Int) := by omega
      clear hc hc'
      cases hq : starEq a[k] b[k]
      · have hne : ∀ W, (binOp .neq 66 (.agg #[.string a[k].name, .int .i64 a[k].asc, .int .i64 a[k].dec, .int .i64 a[k].bri, .int .i64 a[k].fai]) (.agg #[.string b[k].name, .int .i64 b[k].asc, .int .i64 b[k].dec, .int .i64 b[k].bri, .int .i64 b[k].fai])).run Try.prog W = .ok (.bool true) W := fun W => (neq_star _ _ _ _ _ _ _ _ _ _ W).trans (by rw [show ((a[k].name.toList == b[k].name.toList) && (a[k].asc == b[k].asc) && (a[k].dec == b[k].dec) && (a[k].bri == b[k].bri) && (a[k].fai == b[k].fai)) = starEq a[k] b[k] from rfl, hq]; rfl)
        have hgd : ∀ x y W, (eqGuard .neq 66 x y (.agg #[.string a[k].name, .int .i64 a[k].asc, .int .i64 a[k].dec, .int .i64 a[k].bri, .int .i64 a[k].fai]) (.agg #[.string b[k].name, .int .i64 b[k].asc, .int .i64 b[k].dec, .int .i64 b[k].bri, .int .i64 b[k].fai])).run Try.prog W = .ok () W := fun x y W => run_eqGuard_agg W _ _ _ _ _ _ g_star
        have hq' := hide hq
        clear hq
        go_wp2_with fail
        go_quiet (fail)
        go_wp2
        go_ret
        exact ⟨ret_boolE (eqL_bad hlt hlt' hq'.out).symm, (by repeat (first | exact Below.refl _ _ | assumption | refine Below.drew ?_ | refine below_drewN ?_ _ | refine Below.alloc ?_ (by first | omega | (simp; done) | (simp; omega)) _ | refine Below.setCell ?_ (by first | omega | (simp; done) | (simp; omega)) _ | refine Below.trans ?_ (Below.mono (by assumption) (by first | omega | (simp; done) | (simp; omega)))))⟩
      · have hne : ∀ W, (binOp .neq 66 (.agg #[.string a[k].name, .int .i64 a[k].asc, .int .i64 a[k].dec, .int .i64 a[k].bri, .int .i64 a[k].fai]) (.agg #[.string b[k].name, .int .i64 b[k].asc, .int .i64 b[k].dec, .int .i64 b[k].bri, .int .i64 b[k].fai])).run Try.prog W = .ok (.bool false) W := fun W => (neq_star _ _ _ _ _ _ _ _ _ _ W).trans (by rw [show ((a[k].name.toList == b[k].name.toList) && (a[k].asc == b[k].asc) && (a[k].dec == b[k].dec) && (a[k].bri == b[k].bri) && (a[k].fai == b[k].fai)) = starEq a[k] b[k] from rfl, hq]; rfl)
        have hgd : ∀ x y W, (eqGuard .neq 66 x y (.agg #[.string a[k].name, .int .i64 a[k].asc, .int .i64 a[k].dec, .int .i64 a[k].bri, .int .i64 a[k].fai]) (.agg #[.string b[k].name, .int .i64 b[k].asc, .int .i64 b[k].dec, .int .i64 b[k].bri, .int .i64 b[k].fai])).run Try.prog W = .ok () W := fun x y W => run_eqGuard_agg W _ _ _ _ _ _ g_star
        have hq' := hide hq
        clear hq
        go_wp2_with fail
        go_quiet (fail)
        go_wp2
        go_round
        case rel =>
          refine ⟨k + 1, by omega, by go_num, ⟨_, by first | rfl | exact World.drewN_drewN _ _ _⟩, fun j hj h1 h2 => ?_⟩
          rcases Nat.lt_or_ge j k with h0 | h0
          · exact hs.out j h0 h1 h2
          · have : j = k := by omega
            subst this; exact hq'.out
        case measure => simp [intOf]; omega
    · obtain rfl : k = a.length := by omega
      go_wp2
      go_ret
      exact ⟨ret_boolE (eqL_good HL.out (fun i h1 h2 => hs.out i h1 h1 h2)).symm, (by repeat (first | exact Below.refl _ _ | assumption | refine Below.drew ?_ | refine below_drewN ?_ _ | refine Below.alloc ?_ (by first | omega | (simp; done) | (simp; omega)) _ | refine Below.setCell ?_ (by first | omega | (simp; done) | (simp; omega)) _ | refine Below.trans ?_ (Below.mono (by assumption) (by first | omega | (simp; done) | (simp; omega)))))⟩
set_option maxHeartbeats 2000000 in
theorem spec_SameStars_any (A A' : Option Addr) (c c' : Nat) (a b : List StarT) (w : World) (hn : a.length ≤ 1048576) (hn' : b.length ≤ 1048576) (hr : Rd w w.heap.size 5 A a.length (a.flatMap StarT.cells)) (hr' : Rd w w.heap.size 5 A' b.length (b.flatMap StarT.cells)) :
    Calls Try.prog 36 #[.slice A a.length c, .slice A' b.length c'] w fun e w' => e = .returned (.bool (eqL starEq a b)) ∧ Below w.heap.size w w' := by
  have HR := hide hr
  have HR' := hide hr'
  clear hr hr'
  by_cases hl : a.length = b.length
  case neg =>
    have e1 : ((a.length : Int) == (b.length : Int)) = false := by simp; omega
    go_enter Try.func36, Try.ntmps36
    go_wp2
    go_ret
    exact ⟨ret_boolE (eqL_len hl).symm, (by repeat (first | exact Below.refl _ _ | assumption | refine Below.drew ?_ | refine below_drewN ?_ _ | refine Below.alloc ?_ (by first | omega | (simp; done) | (simp; omega)) _ | refine Below.setCell ?_ (by first | omega | (simp; done) | (simp; omega)) _ | refine Below.trans ?_ (Below.mono (by assumption) (by first | omega | (simp; done) | (simp; omega)))))⟩
  have e1 : ((a.length : Int) == (b.length : Int)) = true := by simp; omega
  have HL := hide hl
  have hl1 : a.length ≤ b.length := by omega
  have hl2 : b.length ≤ a.length := by omega
  clear hl
  go_enter Try.func36, Try.ntmps36
  go_wp2_with fail
  go_loopw [5] (fun i wr => ∃ k : Nat, k ≤ a.length ∧ i = .int .i64 k ∧ (∃ n, wr = w.drewN n) ∧ Hid (∀ i (h : i < k) (h1 : i < a.length) (h2 : i < b.length), starEq (a[i]'h1) (b[i]'h2) = true)) (fun i _ => a.length - (intOf i).toNat)
  case atStart => exact ⟨0, by omega, rfl, ⟨0, rfl⟩, fun i hi => absurd hi (by omega)⟩
  case round =>
    obtain ⟨k, hk, rfl, ⟨n, rfl⟩, hs⟩ := hrel
    by_cases hlt : k < a.length
    · have hlt' : k < b.length := by omega
      obtain ⟨g, off, rfl, hg, hc⟩ := HR.out.elem StarT.cells_len hlt
      obtain ⟨g', off', rfl, hg', hc'⟩ := HR'.out.elem StarT.cells_len hlt'
      have f0 : w.cell? ⟨g, off + k * 5, none⟩ = some (.string a[k].name) := hc 0 _ rfl
      have h0 : w.cell? ⟨g', off' + k * 5, none⟩ = some (.string b[k].name) := hc' 0 _ rfl
      have f1 : w.cell? ⟨g, off + k * 5 + 1, none⟩ = some (.int .i64 a[k].asc) := hc 1 _ rfl
      have h1 : w.cell? ⟨g', off' + k * 5 + 1, none⟩ = some (.int .i64 b[k].asc) := hc' 1 _ rfl
      have f2 : w.cell? ⟨g, off + k * 5 + 2, none⟩ = some (.int .i64 a[k].dec) := hc 2 _ rfl
      have h2 : w.cell? ⟨g', off' + k * 5 + 2, none⟩ = some (.int .i64 b[k].dec) := hc' 2 _ rfl
      have f3 : w.cell? ⟨g, off + k * 5 + 3, none⟩ = some (.int .i64 a[k].bri) := hc 3 _ rfl
      have h3 : w.cell? ⟨g', off' + k * 5 + 3, none⟩ = some (.int .i64 b[k].bri) := hc' 3 _ rfl
      have f4 : w.cell? ⟨g, off + k * 5 + 4, none⟩ = some (.int .i64 a[k].fai) := hc 4 _ rfl
      have h4 : w.cell? ⟨g', off' + k * 5 + 4, none⟩ = some (.int .i64 b[k].fai) := hc' 4 _ rfl
      have i1 : (0 : Int) ≤ (k : Int) := by omega
      have i2 : (k : Int) < (a.length : Int) := by omega
      have i3 : (k : Int) < (b.length : Int) := by omega
      clear hc hc'
      cases hq : starEq a[k] b[k]
      · have hne : ∀ W, (binOp .neq 66 (.agg #[.string a[k].name, .int .i64 a[k].asc, .int .i64 a[k].dec, .int .i64 a[k].bri, .int .i64 a[k].fai]) (.agg #[.string b[k].name, .int .i64 b[k].asc, .int .i64 b[k].dec, .int .i64 b[k].bri, .int .i64 b[k].fai])).run Try.prog W = .ok (.bool true) W := fun W => (neq_star _ _ _ _ _ _ _ _ _ _ W).trans (by rw [show ((a[k].name.toList == b[k].name.toList) && (a[k].asc == b[k].asc) && (a[k].dec == b[k].dec) && (a[k].bri == b[k].bri) && (a[k].fai == b[k].fai)) = starEq a[k] b[k] from rfl, hq]; rfl)
        have hgd : ∀ x y W, (eqGuard .neq 66 x y (.agg #[.string a[k].name, .int .i64 a[k].asc, .int .i64 a[k].dec, .int .i64 a[k].bri, .int .i64 a[k].fai]) (.agg #[.string b[k].name, .int .i64 b[k].asc, .int .i64 b[k].dec, .int .i64 b[k].bri, .int .i64 b[k].fai])).run Try.prog W = .ok () W := fun x y W => run_eqGuard_agg W _ _ _ _ _ _ g_star
        have hq' := hide hq
        clear hq
        go_wp2_with fail
        go_quiet (fail)
        go_wp2
        go_ret
        exact ⟨ret_boolE (eqL_bad hlt hlt' hq'.out).symm, (by repeat (first | exact Below.refl _ _ | assumption | refine Below.drew ?_ | refine below_drewN ?_ _ | refine Below.alloc ?_ (by first | omega | (simp; done) | (simp; omega)) _ | refine Below.setCell ?_ (by first | omega | (simp; done) | (simp; omega)) _ | refine Below.trans ?_ (Below.mono (by assumption) (by first | omega | (simp; done) | (simp; omega)))))⟩
      · have hne : ∀ W, (binOp .neq 66 (.agg #[.string a[k].name, .int .i64 a[k].asc, .int .i64 a[k].dec, .int .i64 a[k].bri, .int .i64 a[k].fai]) (.agg #[.string b[k].name, .int .i64 b[k].asc, .int .i64 b[k].dec, .int .i64 b[k].bri, .int .i64 b[k].fai])).run Try.prog W = .ok (.bool false) W := fun W => (neq_star _ _ _ _ _ _ _ _ _ _ W).trans (by rw [show ((a[k].name.toList == b[k].name.toList) && (a[k].asc == b[k].asc) && (a[k].dec == b[k].dec) && (a[k].bri == b[k].bri) && (a[k].fai == b[k].fai)) = starEq a[k] b[k] from rfl, hq]; rfl)
        have hgd : ∀ x y W, (eqGuard .neq 66 x y (.agg #[.string a[k].name, .int .i64 a[k].asc, .int .i64 a[k].dec, .int .i64 a[k].bri, .int .i64 a[k].fai]) (.agg #[.string b[k].name, .int .i64 b[k].asc, .int .i64 b[k].dec, .int .i64 b[k].bri, .int .i64 b[k].fai])).run Try.prog W = .ok () W := fun x y W => run_eqGuard_agg W _ _ _ _ _ _ g_star
        have hq' := hide hq
        clear hq
        go_wp2_with fail
        go_quiet (fail)
        go_wp2
        go_round
        case rel =>
          refine ⟨k + 1, by omega, by go_num, ⟨_, by first | rfl | exact World.drewN_drewN _ _ _⟩, fun j hj h1 h2 => ?_⟩
          rcases Nat.lt_or_ge j k with h0 | h0
          · exact hs.out j h0 h1 h2
          · have : j = k := by omega
            subst this; exact hq'.out
        case measure => simp [intOf]; omega
    · obtain rfl : k = a.length := by omega
      go_wp2
      go_ret
      exact ⟨ret_boolE (eqL_good HL.out (fun i h1 h2 => hs.out i h1 h1 h2)).symm, (by repeat (first | exact Below.refl _ _ | assumption | refine Below.drew ?_ | refine below_drewN ?_ _ | refine Below.alloc ?_ (by first | omega | (simp; done) | (simp; omega)) _ | refine Below.setCell ?_ (by first | omega | (simp; done) | (simp; omega)) _ | refine Below.trans ?_ (Below.mono (by assumption) (by first | omega | (simp; done) | (simp; omega)))))⟩
def estEq (x y : EstT) : Bool := (x.time == y.time) && (x.star.toList == y.star.toList) && (x.obs.toList == y.obs.toList) && (x.mag == y.mag) && (x.fain == y.fain)
theorem u_est : Try.prog.underlying 97 = some (.struct (Try.prog.fieldsOf 97)) := by kernel_rfl
theorem s_est : Try.prog.stoodInHeld 97 = false := by kernel_rfl
theorem g_est : Try.prog.eqGuardType Try.prog.depth 97 = false := by kernel_rfl
theorem f_est : (Try.prog.fieldsOf 97).toList.map shapeOf = [(false, 2, 0), (false, 9, 1), (false, 9, 2), (false, 2, 3), (false, 4, 4)] := by kernel_rfl
theorem neq_est (time time' : Int) (star star' : ByteArray) (obs obs' : ByteArray) (mag mag' : Int) (fain fain' : Bool) (W : World) : (binOp .neq 97 (.agg #[.int .i64 time, .string star, .string obs, .int .i64 mag, .bool fain]) (.agg #[.int .i64 time', .string star', .string obs', .int .i64 mag', .bool fain'])).run Try.prog W = .ok (.bool (!((time == time') && (star.toList == star'.toList) && (obs.toList == obs'.toList) && (mag == mag') && (fain == fain')))) W := by
  rw [run_neq_struct, run_equalIn_agg _ _ _ _ _ u_est s_est, eqFields_shape, f_est]
  simp [eqShape, go_sem, part, run_equalIn_string _ _ _ _ _ u_str, run_equalIn_int _ _ _ _ _ _ _ u_int, run_equalIn_bool' _ _ _ _ _ u_bool]
  (cases h0 : (time == time')) <;> (cases h1 : (star.toList == star'.toList)) <;> (cases h2 : (obs.toList == obs'.toList)) <;> (cases h3 : (mag == mag')) <;> (cases h4 : (fain == fain')) <;> simp_all
set_option maxHeartbeats 2000000 in
theorem EqualEstimates_any (A A' : Option Addr) (c c' : Nat) (a b : List EstT) (w : World) (hn : a.length ≤ 1048576) (hn' : b.length ≤ 1048576) (hr : Rd w w.heap.size 5 A a.length (a.flatMap EstT.cells)) (hr' : Rd w w.heap.size 5 A' b.length (b.flatMap EstT.cells)) :
    Calls Try.prog 85 #[.slice A a.length c, .slice A' b.length c'] w fun e w' => e = .returned (.bool (eqL estEq a b)) ∧ Below w.heap.size w w' := by
  have HR := hide hr
  have HR' := hide hr'
  clear hr hr'
  by_cases hl : a.length = b.length
  case neg =>
    have e1 : ((a.length : Int) == (b.length : Int)) = false := by simp; omega
    go_enter Try.func85, Try.ntmps85
    go_wp2
    go_ret
    exact ⟨ret_boolE (eqL_len hl).symm, (by repeat (first | exact Below.refl _ _ | assumption | refine Below.drew ?_ | refine below_drewN ?_ _ | refine Below.alloc ?_ (by first | omega | (simp; done) | (simp; omega)) _ | refine Below.setCell ?_ (by first | omega | (simp; done) | (simp; omega)) _ | refine Below.trans ?_ (Below.mono (by assumption) (by first | omega | (simp; done) | (simp; omega)))))⟩
  have e1 : ((a.length : Int) == (b.length : Int)) = true := by simp; omega
  have HL := hide hl
  have hl1 : a.length ≤ b.length := by omega
  have hl2 : b.length ≤ a.length := by omega
  clear hl
  go_enter Try.func85, Try.ntmps85
  go_wp2_with fail
  go_loopw [13] (fun i wr => ∃ k : Nat, k ≤ a.length ∧ i = .int .i64 k ∧ (∃ n, wr = w.drewN n) ∧ Hid (∀ i (h : i < k) (h1 : i < a.length) (h2 : i < b.length), estEq (a[i]'h1) (b[i]'h2) = true)) (fun i _ => a.length - (intOf i).toNat)
  case atStart => exact ⟨0, by omega, rfl, ⟨0, rfl⟩, fun i hi => absurd hi (by omega)⟩
  case round =>
    obtain ⟨k, hk, rfl, ⟨n, rfl⟩, hs⟩ := hrel
    by_cases hlt : k < a.length
    · have hlt' : k < b.length := by omega
      obtain ⟨g, off, rfl, hg, hc⟩ := HR.out.elem EstT.cells_len hlt
      obtain ⟨g', off', rfl, hg', hc'⟩ := HR'.out.elem EstT.cells_len hlt'
      have f0 : w.cell? ⟨g, off + k * 5, none⟩ = some (.int .i64 a[k].time) := hc 0 _ rfl
      have h0 : w.cell? ⟨g', off' + k * 5, none⟩ = some (.int .i64 b[k].time) := hc' 0 _ rfl
      have f1 : w.cell? ⟨g, off + k * 5 + 1, none⟩ = some (.string a[k].star) := hc 1 _ rfl
      have h1 : w.cell? ⟨g', off' + k * 5 + 1, none⟩ = some (.string b[k].star) := hc' 1 _ rfl
      have f2 : w.cell? ⟨g, off + k * 5 + 2, none⟩ = some (.string a[k].obs) := hc 2 _ rfl
      have h2 : w.cell? ⟨g', off' + k * 5 + 2, none⟩ = some (.string b[k].obs) := hc' 2 _ rfl
      have f3 : w.cell? ⟨g, off + k * 5 + 3, none⟩ = some (.int .i64 a[k].mag) := hc 3 _ rfl
      have h3 : w.cell? ⟨g', off' + k * 5 + 3, none⟩ = some (.int .i64 b[k].mag) := hc' 3 _ rfl
      have f4 : w.cell? ⟨g, off + k * 5 + 4, none⟩ = some (.bool a[k].fain) := hc 4 _ rfl
      have h4 : w.cell? ⟨g', off' + k * 5 + 4, none⟩ = some (.bool b[k].fain) := hc' 4 _ rfl
      have i1 : (0 : Int) ≤ (k : Int) := by omega
      have i2 : (k : Int) < (a.length : Int) := by omega
      have i3 : (k : Int) < (b.length : Int) := by omega
      clear hc hc'
      cases hq : estEq a[k] b[k]
      · have hne : ∀ W, (binOp .neq 97 (.agg #[.int .i64 a[k].time, .string a[k].star, .string a[k].obs, .int .i64 a[k].mag, .bool a[k].fain]) (.agg #[.int .i64 b[k].time, .string b[k].star, .string b[k].obs, .int .i64 b[k].mag, .bool b[k].fain])).run Try.prog W = .ok (.bool true) W := fun W => (neq_est _ _ _ _ _ _ _ _ _ _ W).trans (by rw [show ((a[k].time == b[k].time) && (a[k].star.toList == b[k].star.toList) && (a[k].obs.toList == b[k].obs.toList) && (a[k].mag == b[k].mag) && (a[k].fain == b[k].fain)) = estEq a[k] b[k] from rfl, hq]; rfl)
        have hgd : ∀ x y W, (eqGuard .neq 97 x y (.agg #[.int .i64 a[k].time, .string a[k].star, .string a[k].obs, .int .i64 a[k].mag, .bool a[k].fain]) (.agg #[.int .i64 b[k].time, .string b[k].star, .string b[k].obs, .int .i64 b[k].mag, .bool b[k].fain])).run Try.prog W = .ok () W := fun x y W => run_eqGuard_agg W _ _ _ _ _ _ g_est
        have hq' := hide hq
        clear hq
        go_wp2_with fail
        go_quiet (fail)
        go_wp2
        go_ret
        exact ⟨ret_boolE (eqL_bad hlt hlt' hq'.out).symm, (by repeat (first | exact Below.refl _ _ | assumption | refine Below.drew ?_ | refine below_drewN ?_ _ | refine Below.alloc ?_ (by first | omega | (simp; done) | (simp; omega)) _ | refine Below.setCell ?_ (by first | omega | (simp; done) | (simp; omega)) _ | refine Below.trans ?_ (Below.mono (by assumption) (by first | omega | (simp; done) | (simp; omega)))))⟩
      · have hne : ∀ W, (binOp .neq 97 (.agg #[.int .i64 a[k].time, .string a[k].star, .string a[k].obs, .int .i64 a[k].mag, .bool a[k].fain]) (.agg #[.int .i64 b[k].time, .string b[k].star, .string b[k].obs, .int .i64 b[k].mag, .bool b[k].fain])).run Try.prog W = .ok (.bool false) W := fun W => (neq_est _ _ _ _ _ _ _ _ _ _ W).trans (by rw [show ((a[k].time == b[k].time) && (a[k].star.toList == b[k].star.toList) && (a[k].obs.toList == b[k].obs.toList) && (a[k].mag == b[k].mag) && (a[k].fain == b[k].fain)) = estEq a[k] b[k] from rfl, hq]; rfl)
        have hgd : ∀ x y W, (eqGuard .neq 97 x y (.agg #[.int .i64 a[k].time, .string a[k].star, .string a[k].obs, .int .i64 a[k].mag, .bool a[k].fain]) (.agg #[.int .i64 b[k].time, .string b[k].star, .string b[k].obs, .int .i64 b[k].mag, .bool b[k].fain])).run Try.prog W = .ok () W := fun x y W => run_eqGuard_agg W _ _ _ _ _ _ g_est
        have hq' := hide hq
        clear hq
        go_wp2_with fail
        go_quiet (fail)
        go_wp2
        go_round
        case rel =>
          refine ⟨k + 1, by omega, by go_num, ⟨_, by first | rfl | exact World.drewN_drewN _ _ _⟩, fun j hj h1 h2 => ?_⟩
          rcases Nat.lt_or_ge j k with h0 | h0
          · exact hs.out j h0 h1 h2
          · have : j = k := by omega
            subst this; exact hq'.out
        case measure => simp [intOf]; omega
    · obtain rfl : k = a.length := by omega
      go_wp2
      go_ret
      exact ⟨ret_boolE (eqL_good HL.out (fun i h1 h2 => hs.out i h1 h1 h2)).symm, (by repeat (first | exact Below.refl _ _ | assumption | refine Below.drew ?_ | refine below_drewN ?_ _ | refine Below.alloc ?_ (by first | omega | (simp; done) | (simp; omega)) _ | refine Below.setCell ?_ (by first | omega | (simp; done) | (simp; omega)) _ | refine Below.trans ?_ (Below.mono (by assumption) (by first | omega | (simp; done) | (simp; omega)))))⟩
set_option maxHeartbeats 2000000 in
theorem spec_SameEstimates_any (A A' : Option Addr) (c c' : Nat) (a b : List EstT) (w : World) (hn : a.length ≤ 1048576) (hn' : b.length ≤ 1048576) (hr : Rd w w.heap.size 5 A a.length (a.flatMap EstT.cells)) (hr' : Rd w w.heap.size 5 A' b.length (b.flatMap EstT.cells)) :
    Calls Try.prog 41 #[.slice A a.length c, .slice A' b.length c'] w fun e w' => e = .returned (.bool (eqL estEq a b)) ∧ Below w.heap.size w w' := by
  have HR := hide hr
  have HR' := hide hr'
  clear hr hr'
  by_cases hl : a.length = b.length
  case neg =>
    have e1 : ((a.length : Int) == (b.length : Int)) = false := by simp; omega
    go_enter Try.func41, Try.ntmps41
    go_wp2
    go_ret
    exact ⟨ret_boolE (eqL_len hl).symm, (by repeat (first | exact Below.refl _ _ | assumption | refine Below.drew ?_ | refine below_drewN ?_ _ | refine Below.alloc ?_ (by first | omega | (simp; done) | (simp; omega)) _ | refine Below.setCell ?_ (by first | omega | (simp; done) | (simp; omega)) _ | refine Below.trans ?_ (Below.mono (by assumption) (by first | omega | (simp; done) | (simp; omega)))))⟩
  have e1 : ((a.length : Int) == (b.length : Int)) = true := by simp; omega
  have HL := hide hl
  have hl1 : a.length ≤ b.length := by omega
  have hl2 : b.length ≤ a.length := by omega
  clear hl
  go_enter Try.func41, Try.ntmps41
  go_wp2_with fail
  go_loopw [5] (fun i wr => ∃ k : Nat, k ≤ a.length ∧ i = .int .i64 k ∧ (∃ n, wr = w.drewN n) ∧ Hid (∀ i (h : i < k) (h1 : i < a.length) (h2 : i < b.length), estEq (a[i]'h1) (b[i]'h2) = true)) (fun i _ => a.length - (intOf i).toNat)
  case atStart => exact ⟨0, by omega, rfl, ⟨0, rfl⟩, fun i hi => absurd hi (by omega)⟩
  case round =>
    obtain ⟨k, hk, rfl, ⟨n, rfl⟩, hs⟩ := hrel
    by_cases hlt : k < a.length
    · have hlt' : k < b.length := by omega
      obtain ⟨g, off, rfl, hg, hc⟩ := HR.out.elem EstT.cells_len hlt
      obtain ⟨g', off', rfl, hg', hc'⟩ := HR'.out.elem EstT.cells_len hlt'
      have f0 : w.cell? ⟨g, off + k * 5, none⟩ = some (.int .i64 a[k].time) := hc 0 _ rfl
      have h0 : w.cell? ⟨g', off' + k * 5, none⟩ = some (.int .i64 b[k].time) := hc' 0 _ rfl
      have f1 : w.cell? ⟨g, off + k * 5 + 1, none⟩ = some (.string a[k].star) := hc 1 _ rfl
      have h1 : w.cell? ⟨g', off' + k * 5 + 1, none⟩ = some (.string b[k].star) := hc' 1 _ rfl
      have f2 : w.cell? ⟨g, off + k * 5 + 2, none⟩ = some (.string a[k].obs) := hc 2 _ rfl
      have h2 : w.cell? ⟨g', off' + k * 5 + 2, none⟩ = some (.string b[k].obs) := hc' 2 _ rfl
      have f3 : w.cell? ⟨g, off + k * 5 + 3, none⟩ = some (.int .i64 a[k].mag) := hc 3 _ rfl
      have h3 : w.cell? ⟨g', off' + k * 5 + 3, none⟩ = some (.int .i64 b[k].mag) := hc' 3 _ rfl
      have f4 : w.cell? ⟨g, off + k * 5 + 4, none⟩ = some (.bool a[k].fain) := hc 4 _ rfl
      have h4 : w.cell? ⟨g', off' + k * 5 + 4, none⟩ = some (.bool b[k].fain) := hc' 4 _ rfl
      have i1 : (0 : Int) ≤ (k : Int) := by omega
      have i2 : (k : Int) < (a.length : Int) := by omega
      have i3 : (k : Int) < (b.length : Int) := by omega
      clear hc hc'
      cases hq : estEq a[k] b[k]
      · have hne : ∀ W, (binOp .neq 97 (.agg #[.int .i64 a[k].time, .string a[k].star, .string a[k].obs, .int .i64 a[k].mag, .bool a[k].fain]) (.agg #[.int .i64 b[k].time, .string b[k].star, .string b[k].obs, .int .i64 b[k].mag, .bool b[k].fain])).run Try.prog W = .ok (.bool true) W := fun W => (neq_est _ _ _ _ _ _ _ _ _ _ W).trans (by rw [show ((a[k].time == b[k].time) && (a[k].star.toList == b[k].star.toList) && (a[k].obs.toList == b[k].obs.toList) && (a[k].mag == b[k].mag) && (a[k].fain == b[k].fain)) = estEq a[k] b[k] from rfl, hq]; rfl)
        have hgd : ∀ x y W, (eqGuard .neq 97 x y (.agg #[.int .i64 a[k].time, .string a[k].star, .string a[k].obs, .int .i64 a[k].mag, .bool a[k].fain]) (.agg #[.int .i64 b[k].time, .string b[k].star, .string b[k].obs, .int .i64 b[k].mag, .bool b[k].fain])).run Try.prog W = .ok () W := fun x y W => run_eqGuard_agg W _ _ _ _ _ _ g_est
        have hq' := hide hq
        clear hq
        go_wp2_with fail
        go_quiet (fail)
        go_wp2
        go_ret
        exact ⟨ret_boolE (eqL_bad hlt hlt' hq'.out).symm, (by repeat (first | exact Below.refl _ _ | assumption | refine Below.drew ?_ | refine below_drewN ?_ _ | refine Below.alloc ?_ (by first | omega | (simp; done) | (simp; omega)) _ | refine Below.setCell ?_ (by first | omega | (simp; done) | (simp; omega)) _ | refine Below.trans ?_ (Below.mono (by assumption) (by first | omega | (simp; done) | (simp; omega)))))⟩
      · have hne : ∀ W, (binOp .neq 97 (.agg #[.int .i64 a[k].time, .string a[k].star, .string a[k].obs, .int .i64 a[k].mag, .bool a[k].fain]) (.agg #[.int .i64 b[k].time, .string b[k].star, .string b[k].obs, .int .i64 b[k].mag, .bool b[k].fain])).run Try.prog W = .ok (.bool false) W := fun W => (neq_est _ _ _ _ _ _ _ _ _ _ W).trans (by rw [show ((a[k].time == b[k].time) && (a[k].star.toList == b[k].star.toList) && (a[k].obs.toList == b[k].obs.toList) && (a[k].mag == b[k].mag) && (a[k].fain == b[k].fain)) = estEq a[k] b[k] from rfl, hq]; rfl)
        have hgd : ∀ x y W, (eqGuard .neq 97 x y (.agg #[.int .i64 a[k].time, .string a[k].star, .string a[k].obs, .int .i64 a[k].mag, .bool a[k].fain]) (.agg #[.int .i64 b[k].time, .string b[k].star, .string b[k].obs, .int .i64 b[k].mag, .bool b[k].fain])).run Try.prog W = .ok () W := fun x y W => run_eqGuard_agg W _ _ _ _ _ _ g_est
        have hq' := hide hq
        clear hq
        go_wp2_with fail
        go_quiet (fail)
        go_wp2
        go_round
        case rel =>
          refine ⟨k + 1, by omega, by go_num, ⟨_, by first | rfl | exact World.drewN_drewN _ _ _⟩, fun j hj h1 h2 => ?_⟩
          rcases Nat.lt_or_ge j k with h0 | h0
          · exact hs.out j h0 h1 h2
          · have : j = k := by omega
            subst this; exact hq'.out
        case measure => simp [intOf]; omega
    · obtain rfl : k = a.length := by omega
      go_wp2
      go_ret
      exact ⟨ret_boolE (eqL_good HL.out (fun i h1 h2 => hs.out i h1 h1 h2)).symm, (by repeat (first | exact Below.refl _ _ | assumption | refine Below.drew ?_ | refine below_drewN ?_ _ | refine Below.alloc ?_ (by first | omega | (simp; done) | (simp; omega)) _ | refine Below.setCell ?_ (by first | omega | (simp; done) | (simp; omega)) _ | refine Below.trans ?_ (Below.mono (by assumption) (by first | omega | (simp; done) | (simp; omega)))))⟩
theorem impl_SameObservers_any (A A' : Option Addr) (c c' : Nat) (a b : List ObsT) (w : World) (hn : a.length ≤ 1048576) (hn' : b.length ≤ 1048576) (hr : Rd w w.heap.size 2 A a.length (a.flatMap ObsT.cells)) (hr' : Rd w w.heap.size 2 A' b.length (b.flatMap ObsT.cells)) :
    Calls Try.prog 33 #[.slice A a.length c, .slice A' b.length c'] w fun e w' => e = .returned (.bool (eqL obsEq a b)) ∧ Below w.heap.size w w' := by
  have HR := hide hr
  have HR' := hide hr'
  clear hr hr'
  go_enter Try.func33, Try.ntmps33
  go_wp2_with fail
  refine (EqualObservers_any A A' c c' a b _ hn hn' HR.out HR'.out).mono ?_
  rintro e w' ⟨rfl, hb⟩
  go_wp2
  go_ret
  exact ⟨rfl, hb⟩
theorem impl_SameStars_any (A A' : Option Addr) (c c' : Nat) (a b : List StarT) (w : World) (hn : a.length ≤ 1048576) (hn' : b.length ≤ 1048576) (hr : Rd w w.heap.size 5 A a.length (a.flatMap StarT.cells)) (hr' : Rd w w.heap.size 5 A' b.length (b.flatMap StarT.cells)) :
    Calls Try.prog 38 #[.slice A a.length c, .slice A' b.length c'] w fun e w' => e = .returned (.bool (eqL starEq a b)) ∧ Below w.heap.size w w' := by
  have HR := hide hr
  have HR' := hide hr'
  clear hr hr'
  go_enter Try.func38, Try.ntmps38
  go_wp2_with fail
  refine (EqualStars_any A A' c c' a b _ hn hn' HR.out HR'.out).mono ?_
  rintro e w' ⟨rfl, hb⟩
  go_wp2
  go_ret
  exact ⟨rfl, hb⟩
theorem impl_SameEstimates_any (A A' : Option Addr) (c c' : Nat) (a b : List EstT) (w : World) (hn : a.length ≤ 1048576) (hn' : b.length ≤ 1048576) (hr : Rd w w.heap.size 5 A a.length (a.flatMap EstT.cells)) (hr' : Rd w w.heap.size 5 A' b.length (b.flatMap EstT.cells)) :
    Calls Try.prog 43 #[.slice A a.length c, .slice A' b.length c'] w fun e w' => e = .returned (.bool (eqL estEq a b)) ∧ Below w.heap.size w w' := by
  have HR := hide hr
  have HR' := hide hr'
  clear hr hr'
  go_enter Try.func43, Try.ntmps43
  go_wp2_with fail
  refine (EqualEstimates_any A A' c c' a b _ hn hn' HR.out HR'.out).mono ?_
  rintro e w' ⟨rfl, hb⟩
  go_wp2
  go_ret
  exact ⟨rfl, hb⟩
theorem eq_end : True := trivial
end Go.Proofs.Ytjflebgaemgeeaa
