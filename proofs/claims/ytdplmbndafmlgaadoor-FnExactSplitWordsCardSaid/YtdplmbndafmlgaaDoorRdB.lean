/-
  Contracts: numbers that the program reads.
-/
import Derived.Test.YtdplmbndafmlgaaDoorRdA
import Derived.Test.YtdplmbndafmlgaaDoorShR
import Derived.Lib.AtoiErrMem
namespace Go.Proofs.YtdplmbndafmlgaaDoor
open Go.RowKit Pl
set_option linter.unusedVariables false
set_option linter.unusedSimpArgs false
/-- The library's sentinel lies in its variable. -/
def Sen (w : World) : Prop := ∃ tp p, w.var? Tryd.prog "strconv.ErrSyntax" = some #[.iface tp p]
theorem var_below {P : Program} {w w' : World} {n : String} {cs : Array Value} (h : w.var? P n = some cs) (hb : Below w.heap.size w w') : w'.var? P n = some cs := by
  unfold World.var? at *
  cases hg : P.globalNamed n with
  | none => simp [hg] at h
  | some g =>
    simp only [hg, Option.bind_some] at h ⊢
    have hlt : g < w.heap.size := by
      rcases Nat.lt_or_ge g w.heap.size with h' | h'
      · exact h'
      · rw [Array.getElem?_eq_none h'] at h; simp at h
    rw [hb.block g hlt]
    exact h
theorem Sen.below {w w' : World} (h : Sen w) (hb : Below w.heap.size w w') : Sen w' := by
  obtain ⟨tp, p, h⟩ := h
  exact ⟨tp, p, var_below h hb⟩
theorem decDigits_head : ∀ (m u : Nat), u ≤ m → ∃ d r, Lib.decDigits u = d :: r ∧ 48 ≤ d.toNat
  | 0, u, h => ⟨dig u, [], dec_small (by omega), by unfold dig; rw [UInt8.toNat_ofNat']; omega⟩
  | m + 1, u, h => by
    by_cases h1 : u < 10
    · exact ⟨dig u, [], dec_small h1, by unfold dig; rw [UInt8.toNat_ofNat']; omega⟩
    · obtain ⟨d, r, e, hd⟩ := decDigits_head m (u / 10) (by omega)
      exact ⟨d, r ++ [dig u], by rw [dec_big (by omega), e]; rfl, hd⟩
theorem itoa_plus (v : Int) (t : List UInt8) : Lib.itoa v ≠ 43 :: t := by
  intro e
  unfold Lib.itoa at e
  split at e
  · simp at e
  · obtain ⟨d, r, e2, hd⟩ := decDigits_head v.toNat v.toNat (Nat.le_refl _)
    rw [e2] at e
    have := (List.cons.inj e).1
    rw [this] at hd
    exact absurd hd (by decide)
theorem trim_unsign (l : List UInt8) : Lib.trimPrefix l [45] = unsign l := by
  cases l with
  | nil => rfl
  | cons c t =>
    by_cases hc : c = 45
    · subst hc
      simp [Lib.trimPrefix, Lib.hasPrefix, unsign]
    · simp [Lib.trimPrefix, Lib.hasPrefix, unsign, hc, Ne.symm hc]
theorem decNat_some {l : List UInt8} (h : 1 ≤ l.length) : Lib.decNat l = Lib.decFrom 0 l := by
  cases l with
  | nil => simp at h
  | cons c t => rfl
theorem parse_cases {l : List UInt8} (h1 : 1 ≤ (unsign l).length) (h18 : (unsign l).length ≤ 18) :
    (∃ v : Int, Lib.parseIntB 64 l = .ok v ∧ -1000000000000000000 ≤ v ∧ v ≤ 1000000000000000000 ∧ resD l = if Lib.itoa v = l then (v, true) else (0, false)) ∨ (Lib.parseIntB 64 l = Lib.NumEnd.ofOption none ∧ resD l = (0, false)) := by
  rw [Lib.parseIntB_64]
  match l, h1, h18 with
  | [], h1, h18 => simp [unsign] at h1
  | c :: t, h1, h18 =>
    by_cases hc : c = 45
    · subst hc
      rw [Lib.atoiAll_minus, Lib.signed_short (show t.length ≤ 18 from h18), decNat_some (show 1 ≤ t.length from h1)]
      cases hd : Lib.decFrom 0 t with
      | none => exact .inr ⟨rfl, resD_bad hd⟩
      | some m =>
        have hm := Lib.decFrom_lt18 hd (show t.length ≤ 18 from h18)
        refine .inl ⟨-(m : Int), rfl, by omega, by omega, ?_⟩
        split
        · rename_i e
          exact resD_ok h1 h18 hd sgn_neg (by simp [e])
        · rename_i e
          exact resD_no h1 h18 hd sgn_neg (by simp [e])
    · have hu : unsign (c :: t) = c :: t := if_neg hc
      rw [hu] at h1 h18
      have hne : (c :: t).head? ≠ some 45 := fun e => hc (by simpa using e)
      by_cases hp : c = 43
      · subst hp
        have hbad : Lib.decFrom 0 (43 :: t) = none := decFrom_bad (k := 0) (by simp) (.inl (show (43 : UInt8).toNat < 48 by decide))
        rw [Lib.atoiAll_plus, Lib.signless_short (show t.length ≤ 18 by simp at h18; omega)]
        cases hd : Lib.decNat t with
        | none => exact .inr ⟨rfl, resD_bad (by rw [hu]; exact hbad)⟩
        | some m =>
          have hm := Lib.decNat_small (show t.length ≤ 18 by simp at h18; omega) hd
          have hm2 : m < 1000000000000000000 := by
            obtain ⟨_, h3⟩ := Lib.decNat_some hd
            exact Lib.decFrom_lt18 h3 (by simp at h18; omega)
          refine .inl ⟨(m : Int), rfl, by omega, by omega, ?_⟩
          rw [if_neg (itoa_plus _ _)]
          exact resD_bad (by rw [hu]; exact hbad)
      · rw [Lib.atoiAll_plain c t (fun e => hp (UInt8.toNat_inj.1 e)) (fun e => hc (UInt8.toNat_inj.1 e)), Lib.signless_short h18, decNat_some h1]
        cases hd : Lib.decFrom 0 (c :: t) with
        | none => exact .inr ⟨rfl, resD_bad (by rw [hu]; exact hd)⟩
        | some m =>
          have hm := Lib.decFrom_lt18 hd h18
          refine .inl ⟨(m : Int), rfl, by omega, by omega, ?_⟩
          split
          · rename_i e
            exact resD_ok (by rw [hu]; exact h1) (by rw [hu]; exact h18) (by rw [hu]; exact hd) (sgn_pos hne) (by simp [e])
          · rename_i e
            exact resD_no (by rw [hu]; exact h1) (by rw [hu]; exact h18) (by rw [hu]; exact hd) (sgn_pos hne) (by simp [e])
set_option maxHeartbeats 1000000 in
theorem impl_ReadDecimal_any (l : List UInt8) (hl : l.length ≤ 1048577) (w : World) (T : Tab w) (S : Sen w) :
    Calls Tryd.prog 41 #[.string ⟨l.toArray⟩] w fun e w' => e = .returned (.tuple #[.int .i64 (resD l).1, .bool (resD l).2]) ∧ Below w.heap.size w w' := by
  have HT := hide T
  have HS := hide S
  clear T S
  have HU := hide (show Lib.trimPrefix (⟨l.toArray⟩ : ByteArray).data.toList (⟨#[45]⟩ : ByteArray).data.toList = unsign l from trim_unsign l)
  have hul : (unsign l).length ≤ l.length := by
    cases l with
    | nil => exact Nat.le_refl _
    | cons c t =>
      show (if c = 45 then t else c :: t).length ≤ (c :: t).length
      split <;> simp
  by_cases h : 1 ≤ (unsign l).length ∧ (unsign l).length ≤ 18
  · obtain ⟨h1, h18⟩ := h
    rcases parse_cases h1 h18 with ⟨v, hp, b1, b2, hr⟩ | ⟨hp, hr⟩
    · have HP := hide hp
      have HR := hide hr
      clear hp hr
      go_enter Tryd.func41, Tryd.ntmps41
      go_wp2_with fail
      refine (Tryd.strings_TrimPrefix ⟨l.toArray⟩ ⟨#[45]⟩ _).mono ?_
      rintro e w1 ⟨rfl, rfl⟩
      rw [HU.out]
      go_wp2_with fail
      refine (Tryd.strconv_ParseInt_10_at64_ok ⟨l.toArray⟩ (by simp [ByteArray.size]; omega) v HP.out _).mono ?_
      rintro e w2 ⟨rfl, hw⟩
      have HB := hide (show Below w1.heap.size w1 w2 from by
        rcases hw with rfl | ⟨t, rfl⟩
        · exact Below.refl _ _
        · exact Lib.bytesWorld_below _ _ _)
      clear hw
      go_wp2_with fail
      refine (Decimal_any v (by omega) _ (HT.out.below HB.out)).mono ?_
      rintro e w3 ⟨rfl, b⟩
      have HB2 := hide (HB.out.trans (b.mono HB.out.size))
      clear b
      go_wp2_with fail
      · have hq : (!Lib.itoa v == l) = true := by assumption
        have hq2 : ¬ Lib.itoa v = l := by simpa using hq
        go_ret2
        exact ⟨ret_rd (by rw [HR.out, if_neg hq2]), HB2.out⟩
      · have hq : (!Lib.itoa v == l) = false := by assumption
        have hq2 : Lib.itoa v = l := by simpa using hq
        go_ret2
        exact ⟨ret_rd (by rw [HR.out, if_pos hq2]), HB2.out⟩
    · have HP := hide hp
      have HR := hide hr
      obtain ⟨tp, p, hvar⟩ := HS.out
      have HV := hide hvar
      clear hp hr hvar
      go_enter Tryd.func41, Tryd.ntmps41
      go_wp2_with fail
      refine (Tryd.strings_TrimPrefix ⟨l.toArray⟩ ⟨#[45]⟩ _).mono ?_
      rintro e w1 ⟨rfl, rfl⟩
      rw [HU.out]
      go_wp2_with fail
      refine (Tryd.strconv_ParseInt_10_at64_syntax_var ⟨l.toArray⟩ (by simp [ByteArray.size]; omega) HP.out tp p _ HV.out).mono ?_
      rintro e w2 ⟨N, rfl, _, _, b⟩
      have HB := hide b
      clear b
      go_wp2
      go_ret2
      exact ⟨ret_rd HR.out, HB.out⟩
  · have HR := hide (resD_long h)
    have h2 : (unsign l).length < 1 ∨ 18 < (unsign l).length := by omega
    clear h
    rcases h2 with h2 | h2
    all_goals
      go_enter Tryd.func41, Tryd.ntmps41
      go_wp2_with fail
      refine (Tryd.strings_TrimPrefix ⟨l.toArray⟩ ⟨#[45]⟩ _).mono ?_
      rintro e w1 ⟨rfl, rfl⟩
      rw [HU.out]
      go_wp2
      go_ret2
      exact ⟨ret_rd HR.out, Below.refl _ _⟩
theorem rdb_end : True := trivial
end Go.Proofs.YtdplmbndafmlgaaDoor
