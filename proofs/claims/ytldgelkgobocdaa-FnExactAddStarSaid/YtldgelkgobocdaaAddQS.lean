/-
  Contracts: an element added to a list of stars, the specification.
-/
import Derived.Test.YtldgelkgobocdaaAddPS
namespace Go.Proofs.Ytldgelkgobocdaa
open Go.RowKit Pl
set_option linter.unusedVariables false
set_option linter.unusedSimpArgs false
set_option maxHeartbeats 8000000 in
set_option maxRecDepth 100000 in
theorem spec_AddStar_any (g off c : Nat) (l : List StarT) (x : StarT) (w : World) (hcap : l.length ≤ c) (hn : l.length ≤ 1048576) (hsx : x.name.size ≤ maxLen) (hok : ∀ x ∈ l, x.ok) (hr : Rd w w.heap.size 5 (some ⟨g, off, none⟩) l.length (l.flatMap StarT.cells)) :
    Calls Try.prog 58 #[.slice (some ⟨g, off, none⟩) l.length c, .agg #[.string x.name, .int .i64 x.asc, .int .i64 x.dec, .int .i64 x.bri, .int .i64 x.fai]] w fun e w' => ∃ A' c', e = .returned (.tuple #[.slice A' (addStar l x).1.length c', .int .i64 (addStar l x).2]) ∧ Own w' w.heap.size 85 5 A' (addStar l x).1.length c' ((addStar l x).1.flatMap StarT.cells) ∧ Below w.heap.size w w' := by
  obtain ⟨i0, hi, hz0, hz1, hz2⟩ := info_parts info_Star
  obtain ⟨w0, hw0⟩ : ∃ w0, w0 = w.alloc (.cells #[.string x.name, .int .i64 x.asc, .int .i64 x.dec, .int .i64 x.bri, .int .i64 x.fai] 85) := ⟨_, rfl⟩
  have E0 := hide (show Below w.heap.size w w0 from hw0 ▸ (Below.refl _ _).alloc (Nat.le_refl _) _)
  have hz9 : w0.heap.size = w.heap.size + 1 := by rw [hw0]; simp
  have BX := hide (show Bk w0 w.heap.size 85 #[.string x.name, .int .i64 x.asc, .int .i64 x.dec, .int .i64 x.bri, .int .i64 x.fai] from by rw [hw0]; exact Bk.new _ _ _)
  have B0 := hide (Below.refl w0.heap.size w0)
  have HW0 := hide hw0
  have HR := hide hr
  have HO := hide hok
  clear hw0 hr hok
  cases hv : validB starOk starLt 60 l
  · rw [show addStar l x = ([], 1) from by simp [addStar, hv]]
    have HV := hide hv
    clear hv
    go_enter Try.func58, Try.ntmps58
    go_wp2_with fail
    rw [← HW0.out]
    refine (l04Ok_any (some ⟨g, off, none⟩) c l _ hn HO.out ((HR.out.below (E0.out.trans (B0.out.mono E0.out.size))).more (Nat.le_trans E0.out.size B0.out.size))).mono ?_
    rintro e w1 ⟨rfl, b⟩
    rw [HV.out]
    have B1 := hide (B0.out.trans (b.mono B0.out.size))
    clear b
    go_wp2
    go_ret2
    exact ⟨none, 0, rfl, Own.none_, E0.out.trans (B1.out.mono E0.out.size)⟩
  cases hm : starOk x
  · rw [show addStar l x = ([], 2) from by simp [addStar, hv, hm]]
    have HV := hide hv
    have HM := hide hm
    clear hv hm
    go_enter Try.func58, Try.ntmps58
    go_wp2_with fail
    rw [← HW0.out]
    refine (l04Ok_any (some ⟨g, off, none⟩) c l _ hn HO.out ((HR.out.below (E0.out.trans (B0.out.mono E0.out.size))).more (Nat.le_trans E0.out.size B0.out.size))).mono ?_
    rintro e w1 ⟨rfl, b⟩
    rw [HV.out]
    have B1 := hide (B0.out.trans (b.mono B0.out.size))
    clear b
    have xx := BX.out.below B1.out (by omega)
    have x0 := xx.cell 0
    have x1 := xx.cell 1
    have x2 := xx.cell 2
    have x3 := xx.cell 3
    have x4 := xx.cell 4
    simp at x0 x1 x2 x3 x4
    clear xx
    have hB := BX.out.below B1.out (by omega)
    go_wp2_with fail
    refine (spec_l04One_any _ _ _ _ _ _ hsx _ 0 (by assumption) (by assumption) (by assumption) (by assumption) (by assumption)).mono ?_
    rintro e w2 ⟨rfl, n9, hw9⟩
    have b : Below w1.heap.size w1 w2 := hw9 ▸ below_drewN (Below.refl _ _) _
    rw [show starB x.name x.asc x.dec x.bri x.fai = _ from HM.out]
    clear hB hw9
    have B2 := hide (B1.out.trans (b.mono B1.out.size))
    clear b
    clear x0 x1 x2 x3 x4
    go_wp2
    go_ret2
    exact ⟨none, 0, rfl, Own.none_, E0.out.trans (B2.out.mono E0.out.size)⟩
  have hle := valid_len hv
  have hup := up_Star hv
  by_cases hf : findStar l x.name < 0
  rotate_left
  · rw [show addStar l x = ([], 4) from by simp [addStar, hv, hm, hf]]
    have HV := hide hv
    have HM := hide hm
    have hf2 : 0 ≤ findStar l x.name := by omega
    clear hv hm
    go_enter Try.func58, Try.ntmps58
    go_wp2_with fail
    rw [← HW0.out]
    refine (l04Ok_any (some ⟨g, off, none⟩) c l _ hn HO.out ((HR.out.below (E0.out.trans (B0.out.mono E0.out.size))).more (Nat.le_trans E0.out.size B0.out.size))).mono ?_
    rintro e w1 ⟨rfl, b⟩
    rw [HV.out]
    have B1 := hide (B0.out.trans (b.mono B0.out.size))
    clear b
    have xx := BX.out.below B1.out (by omega)
    have x0 := xx.cell 0
    have x1 := xx.cell 1
    have x2 := xx.cell 2
    have x3 := xx.cell 3
    have x4 := xx.cell 4
    simp at x0 x1 x2 x3 x4
    clear xx
    have hB := BX.out.below B1.out (by omega)
    go_wp2_with fail
    refine (spec_l04One_any _ _ _ _ _ _ hsx _ 0 (by assumption) (by assumption) (by assumption) (by assumption) (by assumption)).mono ?_
    rintro e w2 ⟨rfl, n9, hw9⟩
    have b : Below w1.heap.size w1 w2 := hw9 ▸ below_drewN (Below.refl _ _) _
    rw [show starB x.name x.asc x.dec x.bri x.fai = _ from HM.out]
    clear hB hw9
    have B2 := hide (B1.out.trans (b.mono B1.out.size))
    clear b
    clear x0 x1 x2 x3 x4
    have xx := BX.out.below B2.out (by omega)
    have x0 := xx.cell 0
    have x1 := xx.cell 1
    have x2 := xx.cell 2
    have x3 := xx.cell 3
    have x4 := xx.cell 4
    simp at x0 x1 x2 x3 x4
    clear xx
    go_wp2_with fail
    refine (l04Find_any (some ⟨g, off, none⟩) c l _ _ hn ((HR.out.below (E0.out.trans (B2.out.mono E0.out.size))).more (Nat.le_trans E0.out.size B2.out.size))).mono ?_
    rintro e w' ⟨rfl, rfl⟩
    go_wp2
    go_ret2
    exact ⟨none, 0, rfl, Own.none_, E0.out.trans (B2.out.mono E0.out.size)⟩
  have HNO := hide (fun j hj => no_Star hf j hj)
  by_cases hl : l.length = 60
  · rw [show addStar l x = ([], 5) from by simp [addStar, hv, hm, hf, hl]]
    have HV := hide hv
    have HM := hide hm
    have hf2 : ¬ 0 ≤ findStar l x.name := by omega
    have hl2 : (60 : Int) ≤ (l.length : Int) := by omega
    clear hv hm hf hl
    go_enter Try.func58, Try.ntmps58
    go_wp2_with fail
    rw [← HW0.out]
    refine (l04Ok_any (some ⟨g, off, none⟩) c l _ hn HO.out ((HR.out.below (E0.out.trans (B0.out.mono E0.out.size))).more (Nat.le_trans E0.out.size B0.out.size))).mono ?_
    rintro e w1 ⟨rfl, b⟩
    rw [HV.out]
    have B1 := hide (B0.out.trans (b.mono B0.out.size))
    clear b
    have xx := BX.out.below B1.out (by omega)
    have x0 := xx.cell 0
    have x1 := xx.cell 1
    have x2 := xx.cell 2
    have x3 := xx.cell 3
    have x4 := xx.cell 4
    simp at x0 x1 x2 x3 x4
    clear xx
    have hB := BX.out.below B1.out (by omega)
    go_wp2_with fail
    refine (spec_l04One_any _ _ _ _ _ _ hsx _ 0 (by assumption) (by assumption) (by assumption) (by assumption) (by assumption)).mono ?_
    rintro e w2 ⟨rfl, n9, hw9⟩
    have b : Below w1.heap.size w1 w2 := hw9 ▸ below_drewN (Below.refl _ _) _
    rw [show starB x.name x.asc x.dec x.bri x.fai = _ from HM.out]
    clear hB hw9
    have B2 := hide (B1.out.trans (b.mono B1.out.size))
    clear b
    clear x0 x1 x2 x3 x4
    have xx := BX.out.below B2.out (by omega)
    have x0 := xx.cell 0
    have x1 := xx.cell 1
    have x2 := xx.cell 2
    have x3 := xx.cell 3
    have x4 := xx.cell 4
    simp at x0 x1 x2 x3 x4
    clear xx
    go_wp2_with fail
    refine (l04Find_any (some ⟨g, off, none⟩) c l _ _ hn ((HR.out.below (E0.out.trans (B2.out.mono E0.out.size))).more (Nat.le_trans E0.out.size B2.out.size))).mono ?_
    rintro e w' ⟨rfl, rfl⟩
    go_wp2
    go_ret2
    exact ⟨none, 0, rfl, Own.none_, E0.out.trans (B2.out.mono E0.out.size)⟩
  rw [show addStar l x = (insL l (insP (fun y : StarT => y.name.toList) l x.name.toList) x, 0) from by simp [addStar, hv, hm, hf, hl]]
  have HL := hide (insL_len (x := x) (insP_le (nm := (fun y : StarT => y.name.toList)) (l := l) (s := x.name.toList)))
  have HV := hide hv
  have HM := hide hm
  have hf2 : ¬ 0 ≤ findStar l x.name := by omega
  have hl2 : ¬ (60 : Int) ≤ (l.length : Int) := by omega
  have HUP := hide hup
  clear hv hm hf hup
  go_enter Try.func58, Try.ntmps58
  go_wp2_with fail
  rw [← HW0.out]
  refine (l04Ok_any (some ⟨g, off, none⟩) c l _ hn HO.out ((HR.out.below (E0.out.trans (B0.out.mono E0.out.size))).more (Nat.le_trans E0.out.size B0.out.size))).mono ?_
  rintro e w1 ⟨rfl, b⟩
  rw [HV.out]
  have B1 := hide (B0.out.trans (b.mono B0.out.size))
  clear b
  have xx := BX.out.below B1.out (by omega)
  have x0 := xx.cell 0
  have x1 := xx.cell 1
  have x2 := xx.cell 2
  have x3 := xx.cell 3
  have x4 := xx.cell 4
  simp at x0 x1 x2 x3 x4
  clear xx
  have hB := BX.out.below B1.out (by omega)
  go_wp2_with fail
  refine (spec_l04One_any _ _ _ _ _ _ hsx _ 0 (by assumption) (by assumption) (by assumption) (by assumption) (by assumption)).mono ?_
  rintro e w2 ⟨rfl, n9, hw9⟩
  have b : Below w1.heap.size w1 w2 := hw9 ▸ below_drewN (Below.refl _ _) _
  rw [show starB x.name x.asc x.dec x.bri x.fai = _ from HM.out]
  clear hB hw9
  have B2 := hide (B1.out.trans (b.mono B1.out.size))
  clear b
  clear x0 x1 x2 x3 x4
  have xx := BX.out.below B2.out (by omega)
  have x0 := xx.cell 0
  have x1 := xx.cell 1
  have x2 := xx.cell 2
  have x3 := xx.cell 3
  have x4 := xx.cell 4
  simp at x0 x1 x2 x3 x4
  clear xx
  go_wp2_with fail
  refine (l04Find_any (some ⟨g, off, none⟩) c l _ _ hn ((HR.out.below (E0.out.trans (B2.out.mono E0.out.size))).more (Nat.le_trans E0.out.size B2.out.size))).mono ?_
  rintro e w' ⟨rfl, rfl⟩
  go_wp2_with fail
  go_loopw [6] (fun i wr => ∃ j : Nat, j ≤ l.length ∧ i = .int .i64 j ∧ Below w0.heap.size w0 wr ∧ Hid (∀ t (h : t < l.length), j ≤ t → Op.bytesLess ((fun y : StarT => y.name.toList) l[t]) x.name.toList = false)) (fun i _ => (intOf i).toNat)
  case atStart => exact ⟨l.length, Nat.le_refl _, rfl, B2.out, fun t h h2 => absurd h2 (by omega)⟩
  case round =>
    obtain ⟨j, hj, rfl, hb, HS⟩ := hrel
    have HBr := hide hb
    clear hb
    by_cases h0 : 0 < j
    · obtain ⟨q, hq⟩ : ∃ q, j = q + 1 := ⟨j - 1, by omega⟩
      have hql : q < l.length := by omega
      obtain ⟨g', off', he, hg, hc⟩ := (HR.out.below (E0.out.trans (HBr.out.mono E0.out.size))).elem StarT.cells_len hql
      injection he with he
      injection he with he1 he2 _
      subst he1 he2
      have e0 : wr.cell? ⟨g, off + q * 5, none⟩ = some (.string l[q].name) := hc 0 _ rfl
      have xx := BX.out.below HBr.out (by omega)
      have b0 := xx.cell 0
      simp at b0
      clear xx hc
      have hne := HNO.out q hql
      have hd : (0 : Int) < (j : Int) := by omega
      have hq1 : IntKind.i64.wrap ((j : Int) - 1) = (q : Int) := by rw [IntKind.wrap_i64]; omega
      have hq2 : (j : Int) - 1 = (q : Int) := by omega
      have i1 : (0 : Int) ≤ (q : Int) := by omega
      have i2 : (q : Int) < (l.length : Int) := by omega
      cases hb : Op.bytesLess l[q].name.toList x.name.toList
      · have HQ := hide hb
        have HJ := hide hq
        clear hq
        go_wp2_with fail
        go_quiet (fail)
        go_wp2
        go_roundw
        case rel =>
          have hq := HJ.out
          refine ⟨q, by omega, by go_num, below_drewN HBr.out _, fun t h ht => ?_⟩
          rcases Nat.lt_or_ge q t with h3 | h3
          · exact HS.out t h (by omega)
          · have : t = q := by omega
            subst this
            exact HQ.out
        case measure => have hq := HJ.out; simp [intOf]; omega
      · have HJ := hide hq
        have hb2 : ∀ (h : j - 1 < l.length), 0 < j → Op.bytesLess ((fun y : StarT => y.name.toList) (l[j - 1]'h)) x.name.toList = true := by
          intro h _
          have e : j - 1 = q := by omega
          simp only [e]
          exact hb
        have HK := hide (show j = insP (fun y : StarT => y.name.toList) l x.name.toList from insP_down HUP.out (by omega) HS.out hb2)
        clear hq hb2
        go_wp2_with fail
        go_quiet (fail)
        obtain ⟨wq, hwq⟩ : ∃ wq, wq = wr.drewN nq := ⟨_, rfl⟩
        have HB := hide (show Below w0.heap.size w0 wq from hwq ▸ below_drewN HBr.out _)
        have hqz0 := hide (show w.heap.size ≤ wq.heap.size from Nat.le_trans E0.out.size HB.out.size)
        rw [← hwq]
        clear hwq
        clear e0 b0 hne hd hq1 hq2 i1 i2 hb
        have xx := BX.out.below HB.out (by omega)
        have HBX := hide xx
        clear xx
        have HRD := hide ((HR.out.below (E0.out.trans (HB.out.mono E0.out.size))))
        have hqz : w.heap.size < wq.heap.size := by have := HB.out.size; omega
        have hj0 : (0 : Int) ≤ (j : Int) := by omega
        have hj1 : (j : Int) ≤ (l.length : Int) := by omega
        have hjc : (l.length : Int) ≤ (c : Int) := by omega
        have HN1 := hide (show ∀ t u, ((l.take j).flatMap StarT.cells)[t]? = some u → (wq.alloc (.cells #[] 85)).cell? ((⟨g, off, none⟩ : Addr).add t) = some u from rd_take StarT.cells_len (HRD.out.alloc (by omega) _) (by omega))
        go_wp2_with (at_builtin; refine wpList_append_own _ rfl _ _ 33 rfl wq.heap.size 85 i0 (.agg #[.string ⟨#[]⟩, .int .i64 0, .int .i64 0, .int .i64 0, .int .i64 0]) 5 48 Try.underlying33 hi hz0 hz1 hz2 rfl (by decide) _ 0 [] rfl (Own.empty_ wq 85 5 (Nat.le_refl _)) ⟨g, off, none⟩ j _ ((l.take j).flatMap StarT.cells) rfl (by rw [flat_len StarT.cells 5 StarT.cells_len, List.length_take, Nat.min_eq_left (by omega)]) HN1.out oneS (by unfold maxLen; omega) (by omega) (by simp) ?_)
        intro v1 wr1 hown hgrow _
        obtain ⟨A1, c1, he1, hown1⟩ := own_cases hown
        subst he1
        have P1 := hide (show Below wq.heap.size wq wr1 from ((Below.refl _ _).alloc (Nat.le_refl _) _).grown hgrow (by simp) (fun q hq => by simp [Value.ownBlock] at hq; omega))
        have O1 := hide hown1
        clear hown hgrow hown1
        have xx := HBX.out.below P1.out hqz
        have x0 := xx.cell 0
        have x1 := xx.cell 1
        have x2 := xx.cell 2
        have x3 := xx.cell 3
        have x4 := xx.cell 4
        simp at x0 x1 x2 x3 x4
        clear xx
        go_wp2_with (at_builtin; refine wpList_append_own _ rfl _ _ 33 rfl wq.heap.size 85 i0 (.agg #[.string ⟨#[]⟩, .int .i64 0, .int .i64 0, .int .i64 0, .int .i64 0]) 5 48 Try.underlying33 hi hz0 hz1 hz2 rfl (by decide) _ j _ rfl (O1.out.below (Below.alloc (Below.refl wr1.heap.size wr1) (Nat.le_refl _) (.cells #[.string x.name, .int .i64 x.asc, .int .i64 x.dec, .int .i64 x.bri, .int .i64 x.fai] 85))) ⟨wr1.heap.size, 0, none⟩ 1 1 (StarT.cells x) rfl rfl (c1_new (us := StarT.cells x) rfl) (oneCS x) (by unfold maxLen; omega) (by omega) (by have := P1.out.size; simp; omega) ?_)
        intro v2 wr2 hown hgrow _
        obtain ⟨A2, c2, he2, hown2⟩ := own_cases hown
        subst he2
        have P2 := hide (show Below wq.heap.size wq wr2 from (P1.out.alloc P1.out.size (.cells #[.string x.name, .int .i64 x.asc, .int .i64 x.dec, .int .i64 x.bri, .int .i64 x.fai] 85)).grown hgrow (by have := P1.out.size; simp; omega) (fun q hq => (O1.out.lt (g := q) hq).1))
        have O2 := hide hown2
        clear hown hgrow hown2 x0 x1 x2 x3 x4
        have HRD2 := hide (HRD.out.below (P2.out.mono hqz0.out))
        by_cases hjn : j = l.length
        · subst hjn
          by_cases hcn : c = l.length
          · subst hcn
            go_wp2_with (at_builtin; refine wpList_append_own _ rfl _ _ 33 rfl wq.heap.size 85 i0 (.agg #[.string ⟨#[]⟩, .int .i64 0, .int .i64 0, .int .i64 0, .int .i64 0]) 5 48 Try.underlying33 hi hz0 hz1 hz2 rfl (by decide) _ (l.length + 1) _ rfl O2.out _ 0 _ [] rfl (by simp) (by simp) (by simp) (by unfold maxLen; omega) (by omega) P2.out.size ?_)
            intro v3 wr3 hown hgrow _
            obtain ⟨A3, c3, he3, hown3⟩ := own_cases hown
            subst he3
            have P3 := hide (show Below wq.heap.size wq wr3 from P2.out.grown hgrow P2.out.size (fun q hq => (O2.out.lt (g := q) hq).1))
            have O3 := hide hown3
            clear hown hgrow hown3
            go_wp2
            go_ret2
            have hle2 : (insL l (insP (fun y : StarT => y.name.toList) l x.name.toList) x).length = l.length + 1 + 0 := by have := HL.out; omega
            exact ⟨A3, c3, ret_slc hle2, (O3.out.base (by have := HB.out.size; omega)).fit hle2.symm (by rw [← HK.out, ← insL_flat]; try simp), E0.out.trans ((HB.out.trans (P3.out.mono HB.out.size)).mono E0.out.size)⟩
          · have hcn2 : ¬ c = l.length := hcn
            go_wp2_with (at_builtin; refine wpList_append_own _ rfl _ _ 33 rfl wq.heap.size 85 i0 (.agg #[.string ⟨#[]⟩, .int .i64 0, .int .i64 0, .int .i64 0, .int .i64 0]) 5 48 Try.underlying33 hi hz0 hz1 hz2 rfl (by decide) _ (l.length + 1) _ rfl O2.out _ 0 _ [] rfl (by simp) (by simp) (by simp) (by unfold maxLen; omega) (by omega) P2.out.size ?_)
            intro v3 wr3 hown hgrow _
            obtain ⟨A3, c3, he3, hown3⟩ := own_cases hown
            subst he3
            have P3 := hide (show Below wq.heap.size wq wr3 from P2.out.grown hgrow P2.out.size (fun q hq => (O2.out.lt (g := q) hq).1))
            have O3 := hide hown3
            clear hown hgrow hown3
            go_wp2
            go_ret2
            have hle2 : (insL l (insP (fun y : StarT => y.name.toList) l x.name.toList) x).length = l.length + 1 + 0 := by have := HL.out; omega
            exact ⟨A3, c3, ret_slc hle2, (O3.out.base (by have := HB.out.size; omega)).fit hle2.symm (by rw [← HK.out, ← insL_flat]; try simp), E0.out.trans ((HB.out.trans (P3.out.mono HB.out.size)).mono E0.out.size)⟩
        · have hcj : ¬ c = j := by omega
          have HN3 := hide (show ∀ t u, ((l.drop j).flatMap StarT.cells)[t]? = some u → wr2.cell? ((⟨g, off + j * 5, none⟩ : Addr).add t) = some u from rd_drop StarT.cells_len HRD2.out (by omega))
          go_wp2_with (at_builtin; refine wpList_append_own _ rfl _ _ 33 rfl wq.heap.size 85 i0 (.agg #[.string ⟨#[]⟩, .int .i64 0, .int .i64 0, .int .i64 0, .int .i64 0]) 5 48 Try.underlying33 hi hz0 hz1 hz2 rfl (by decide) _ (j + 1) _ rfl O2.out ⟨g, off + j * 5, none⟩ (l.length - j) _ ((l.drop j).flatMap StarT.cells) rfl (by rw [flat_len StarT.cells 5 StarT.cells_len, List.length_drop]) HN3.out oneS (by unfold maxLen; omega) (by omega) P2.out.size ?_)
          intro v3 wr3 hown hgrow _
          obtain ⟨A3, c3, he3, hown3⟩ := own_cases hown
          subst he3
          have P3 := hide (show Below wq.heap.size wq wr3 from P2.out.grown hgrow P2.out.size (fun q hq => (O2.out.lt (g := q) hq).1))
          have O3 := hide hown3
          clear hown hgrow hown3
          go_wp2
          go_ret2
          have hle2 : (insL l (insP (fun y : StarT => y.name.toList) l x.name.toList) x).length = j + 1 + (l.length - j) := by have := HL.out; omega
          exact ⟨A3, c3, ret_slc hle2, (O3.out.base (by have := HB.out.size; omega)).fit hle2.symm (by rw [← HK.out, ← insL_flat]; try simp only [List.append_assoc]), E0.out.trans ((HB.out.trans (P3.out.mono HB.out.size)).mono E0.out.size)⟩
    · have hd : decide ((0 : Int) < (j : Int)) = false := by simp; omega
      have HK := hide (show j = insP (fun y : StarT => y.name.toList) l x.name.toList from insP_down HUP.out (by omega) HS.out (fun h h2 => absurd h2 h0))
      go_wp2_with fail
      go_quiet (fail)
      obtain ⟨wq, hwq⟩ : ∃ wq, wq = wr.drewN nq := ⟨_, rfl⟩
      have HB := hide (show Below w0.heap.size w0 wq from hwq ▸ below_drewN HBr.out _)
      have hqz0 := hide (show w.heap.size ≤ wq.heap.size from Nat.le_trans E0.out.size HB.out.size)
      rw [← hwq]
      clear hwq
      clear hd
      have xx := BX.out.below HB.out (by omega)
      have HBX := hide xx
      clear xx
      have HRD := hide ((HR.out.below (E0.out.trans (HB.out.mono E0.out.size))))
      have hqz : w.heap.size < wq.heap.size := by have := HB.out.size; omega
      have hj0 : (0 : Int) ≤ (j : Int) := by omega
      have hj1 : (j : Int) ≤ (l.length : Int) := by omega
      have hjc : (l.length : Int) ≤ (c : Int) := by omega
      have HN1 := hide (show ∀ t u, ((l.take j).flatMap StarT.cells)[t]? = some u → (wq.alloc (.cells #[] 85)).cell? ((⟨g, off, none⟩ : Addr).add t) = some u from rd_take StarT.cells_len (HRD.out.alloc (by omega) _) (by omega))
      go_wp2_with (at_builtin; refine wpList_append_own _ rfl _ _ 33 rfl wq.heap.size 85 i0 (.agg #[.string ⟨#[]⟩, .int .i64 0, .int .i64 0, .int .i64 0, .int .i64 0]) 5 48 Try.underlying33 hi hz0 hz1 hz2 rfl (by decide) _ 0 [] rfl (Own.empty_ wq 85 5 (Nat.le_refl _)) ⟨g, off, none⟩ j _ ((l.take j).flatMap StarT.cells) rfl (by rw [flat_len StarT.cells 5 StarT.cells_len, List.length_take, Nat.min_eq_left (by omega)]) HN1.out oneS (by unfold maxLen; omega) (by omega) (by simp) ?_)
      intro v1 wr1 hown hgrow _
      obtain ⟨A1, c1, he1, hown1⟩ := own_cases hown
      subst he1
      have P1 := hide (show Below wq.heap.size wq wr1 from ((Below.refl _ _).alloc (Nat.le_refl _) _).grown hgrow (by simp) (fun q hq => by simp [Value.ownBlock] at hq; omega))
      have O1 := hide hown1
      clear hown hgrow hown1
      have xx := HBX.out.below P1.out hqz
      have x0 := xx.cell 0
      have x1 := xx.cell 1
      have x2 := xx.cell 2
      have x3 := xx.cell 3
      have x4 := xx.cell 4
      simp at x0 x1 x2 x3 x4
      clear xx
      go_wp2_with (at_builtin; refine wpList_append_own _ rfl _ _ 33 rfl wq.heap.size 85 i0 (.agg #[.string ⟨#[]⟩, .int .i64 0, .int .i64 0, .int .i64 0, .int .i64 0]) 5 48 Try.underlying33 hi hz0 hz1 hz2 rfl (by decide) _ j _ rfl (O1.out.below (Below.alloc (Below.refl wr1.heap.size wr1) (Nat.le_refl _) (.cells #[.string x.name, .int .i64 x.asc, .int .i64 x.dec, .int .i64 x.bri, .int .i64 x.fai] 85))) ⟨wr1.heap.size, 0, none⟩ 1 1 (StarT.cells x) rfl rfl (c1_new (us := StarT.cells x) rfl) (oneCS x) (by unfold maxLen; omega) (by omega) (by have := P1.out.size; simp; omega) ?_)
      intro v2 wr2 hown hgrow _
      obtain ⟨A2, c2, he2, hown2⟩ := own_cases hown
      subst he2
      have P2 := hide (show Below wq.heap.size wq wr2 from (P1.out.alloc P1.out.size (.cells #[.string x.name, .int .i64 x.asc, .int .i64 x.dec, .int .i64 x.bri, .int .i64 x.fai] 85)).grown hgrow (by have := P1.out.size; simp; omega) (fun q hq => (O1.out.lt (g := q) hq).1))
      have O2 := hide hown2
      clear hown hgrow hown2 x0 x1 x2 x3 x4
      have HRD2 := hide (HRD.out.below (P2.out.mono hqz0.out))
      by_cases hjn : j = l.length
      · subst hjn
        by_cases hcn : c = l.length
        · subst hcn
          go_wp2_with (at_builtin; refine wpList_append_own _ rfl _ _ 33 rfl wq.heap.size 85 i0 (.agg #[.string ⟨#[]⟩, .int .i64 0, .int .i64 0, .int .i64 0, .int .i64 0]) 5 48 Try.underlying33 hi hz0 hz1 hz2 rfl (by decide) _ (l.length + 1) _ rfl O2.out _ 0 _ [] rfl (by simp) (by simp) (by simp) (by unfold maxLen; omega) (by omega) P2.out.size ?_)
          intro v3 wr3 hown hgrow _
          obtain ⟨A3, c3, he3, hown3⟩ := own_cases hown
          subst he3
          have P3 := hide (show Below wq.heap.size wq wr3 from P2.out.grown hgrow P2.out.size (fun q hq => (O2.out.lt (g := q) hq).1))
          have O3 := hide hown3
          clear hown hgrow hown3
          go_wp2
          go_ret2
          have hle2 : (insL l (insP (fun y : StarT => y.name.toList) l x.name.toList) x).length = l.length + 1 + 0 := by have := HL.out; omega
          exact ⟨A3, c3, ret_slc hle2, (O3.out.base (by have := HB.out.size; omega)).fit hle2.symm (by rw [← HK.out, ← insL_flat]; try simp), E0.out.trans ((HB.out.trans (P3.out.mono HB.out.size)).mono E0.out.size)⟩
        · have hcn2 : ¬ c = l.length := hcn
          go_wp2_with (at_builtin; refine wpList_append_own _ rfl _ _ 33 rfl wq.heap.size 85 i0 (.agg #[.string ⟨#[]⟩, .int .i64 0, .int .i64 0, .int .i64 0, .int .i64 0]) 5 48 Try.underlying33 hi hz0 hz1 hz2 rfl (by decide) _ (l.length + 1) _ rfl O2.out _ 0 _ [] rfl (by simp) (by simp) (by simp) (by unfold maxLen; omega) (by omega) P2.out.size ?_)
          intro v3 wr3 hown hgrow _
          obtain ⟨A3, c3, he3, hown3⟩ := own_cases hown
          subst he3
          have P3 := hide (show Below wq.heap.size wq wr3 from P2.out.grown hgrow P2.out.size (fun q hq => (O2.out.lt (g := q) hq).1))
          have O3 := hide hown3
          clear hown hgrow hown3
          go_wp2
          go_ret2
          have hle2 : (insL l (insP (fun y : StarT => y.name.toList) l x.name.toList) x).length = l.length + 1 + 0 := by have := HL.out; omega
          exact ⟨A3, c3, ret_slc hle2, (O3.out.base (by have := HB.out.size; omega)).fit hle2.symm (by rw [← HK.out, ← insL_flat]; try simp), E0.out.trans ((HB.out.trans (P3.out.mono HB.out.size)).mono E0.out.size)⟩
      · have hcj : ¬ c = j := by omega
        have HN3 := hide (show ∀ t u, ((l.drop j).flatMap StarT.cells)[t]? = some u → wr2.cell? ((⟨g, off + j * 5, none⟩ : Addr).add t) = some u from rd_drop StarT.cells_len HRD2.out (by omega))
        go_wp2_with (at_builtin; refine wpList_append_own _ rfl _ _ 33 rfl wq.heap.size 85 i0 (.agg #[.string ⟨#[]⟩, .int .i64 0, .int .i64 0, .int .i64 0, .int .i64 0]) 5 48 Try.underlying33 hi hz0 hz1 hz2 rfl (by decide) _ (j + 1) _ rfl O2.out ⟨g, off + j * 5, none⟩ (l.length - j) _ ((l.drop j).flatMap StarT.cells) rfl (by rw [flat_len StarT.cells 5 StarT.cells_len, List.length_drop]) HN3.out oneS (by unfold maxLen; omega) (by omega) P2.out.size ?_)
        intro v3 wr3 hown hgrow _
        obtain ⟨A3, c3, he3, hown3⟩ := own_cases hown
        subst he3
        have P3 := hide (show Below wq.heap.size wq wr3 from P2.out.grown hgrow P2.out.size (fun q hq => (O2.out.lt (g := q) hq).1))
        have O3 := hide hown3
        clear hown hgrow hown3
        go_wp2
        go_ret2
        have hle2 : (insL l (insP (fun y : StarT => y.name.toList) l x.name.toList) x).length = j + 1 + (l.length - j) := by have := HL.out; omega
        exact ⟨A3, c3, ret_slc hle2, (O3.out.base (by have := HB.out.size; omega)).fit hle2.symm (by rw [← HK.out, ← insL_flat]; try simp only [List.append_assoc]), E0.out.trans ((HB.out.trans (P3.out.mono HB.out.size)).mono E0.out.size)⟩
theorem spec_AddStar_val {l : List StarT} {x : StarT} {res : List StarT} {code : Int} (hF : (res, code) = addStar l x) (g off c : Nat) (w : World) (hcap : l.length ≤ c) (hn : l.length ≤ 1048576) (hsx : x.name.size ≤ maxLen) (hok : ∀ x ∈ l, x.ok) (hr : Rd w w.heap.size 5 (some ⟨g, off, none⟩) l.length (l.flatMap StarT.cells)) :
    Calls Try.prog 58 #[.slice (some ⟨g, off, none⟩) l.length c, .agg #[.string x.name, .int .i64 x.asc, .int .i64 x.dec, .int .i64 x.bri, .int .i64 x.fai]] w fun e w' => ∃ A' c', e = .returned (.tuple #[.slice A' res.length c', .int .i64 code]) ∧ Own w' w.heap.size 85 5 A' res.length c' (res.flatMap StarT.cells) ∧ Below w.heap.size w w' := by
  have h := spec_AddStar_any g off c l x w hcap hn hsx hok hr
  rw [← hF] at h
  exact h
theorem addQS_end : True := trivial
end Go.Proofs.Ytldgelkgobocdaa
