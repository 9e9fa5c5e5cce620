/-
  Contracts: ByAmplitude, the reference.
-/
import Derived.Test.YthgppfbepfgelaaAmpG
namespace Go.Proofs.Ythgppfbepfgelaa
open Go.RowKit Pl Go.Sort
set_option linter.unusedVariables false
set_option linter.unusedSimpArgs false
theorem oneN {l : List Int} : ∀ u ∈ ints l, u.oneCell' = true := by
  intro u hu
  simp only [ints, List.mem_map] at hu
  obtain ⟨x, _, rfl⟩ := hu
  rfl
theorem add_lit' (b o j : Nat) : (⟨b, o, none⟩ : Addr).add j = ⟨b, o + j, none⟩ := by unfold Addr.add; split <;> simp_all
theorem rdI_all {w : World} {B : Nat} {ad : Addr} {l : List Int} (h : Rd w B 1 (some ad) l.length (ints l)) : ∀ t u, (ints l)[t]? = some u → w.cell? (ad.add t) = some u := by
  intro t u hu
  rcases Nat.eq_zero_or_pos l.length with h0 | h0
  · have : l = [] := List.eq_nil_of_length_eq_zero h0
    subst this
    simp [ints] at hu
  · obtain ⟨g, off, he, _, hc⟩ := h.2 h0
    injection he with he
    subst he
    rw [add_lit']
    exact hc t u hu
theorem rdI_take {w : World} {B g off : Nat} {l : List Int} (h : Rd w B 1 (some ⟨g, off, none⟩) l.length (ints l)) {j : Nat} (hj : j ≤ l.length) : Rd w B 1 (some ⟨g, off, none⟩) (l.take j).length (ints (l.take j)) := by
  refine ⟨by simp [ints], fun h0 => ?_⟩
  obtain ⟨g', off', he, hg, hc⟩ := h.2 (by simp at h0; omega)
  injection he with he
  injection he with he1 he2 _
  subst he1 he2
  refine ⟨g, off, rfl, hg, fun t u hu => hc t u ?_⟩
  simp only [ints, List.map_take] at hu ⊢
  rcases Nat.lt_or_ge t j with h3 | h3
  · rwa [List.getElem?_take_of_lt h3] at hu
  · rw [List.getElem?_eq_none (by simp; omega)] at hu
    cases hu
theorem rdI_drop {w : World} {B g off : Nat} {l : List Int} (h : Rd w B 1 (some ⟨g, off, none⟩) l.length (ints l)) {j : Nat} (hj : j < l.length) : ∀ t u, (ints (l.drop j))[t]? = some u → w.cell? ((⟨g, off + j, none⟩ : Addr).add t) = some u := by
  intro t u hu
  obtain ⟨g', off', he, _, hc⟩ := h.2 (by omega)
  injection he with he
  injection he with he1 he2 _
  subst he1 he2
  rw [add_lit']
  simp only [ints, List.map_drop, List.getElem?_drop] at hu
  have := hc (j + t) u hu
  rw [← Nat.add_assoc] at this
  exact this
theorem own_pos {w : World} {lo n k : Nat} {E : TypeId} {v : Value} {xs : List Value} (h0 : 0 < n) (h : w.ownsRow lo E k v n xs) : ∃ g c, v = .slice (some ⟨g, 0, none⟩) n c ∧ Own w lo E k (some ⟨g, 0, none⟩) n c xs := by
  obtain ⟨A, c, rfl, h2⟩ := own_cases h
  obtain ⟨_, _, _, ⟨_, h3, _⟩ | ⟨g, _, rfl, _⟩⟩ := h2.parts
  · omega
  · exact ⟨g, c, rfl, h2⟩
theorem slc_eq {A : Option Addr} {n m c : Nat} (h : n = m) : Value.slice A n c = Value.slice A m c := by rw [h]
theorem Own.fit1 {w : World} {lo n m k c : Nat} {E : TypeId} {A : Option Addr} {xs ys : List Value} (h : Own w lo E k A n c xs) (hn : n = m) (hx : xs = ys) : Own w lo E k A m c ys := by subst hn hx; exact h
set_option maxHeartbeats 1000000 in
theorem l00Own_any (ad : Addr) (c : Nat) (l : List Int) (w : World) (hn : l.length ≤ 1048576) (hr : Rd w w.heap.size 1 (some ad) l.length (ints l)) :
    Calls Try.prog 15 #[.slice (some ad) l.length c] w fun e w' => ∃ A' c', e = .returned (.slice A' l.length c') ∧ Own w' w.heap.size 2 1 A' l.length c' (ints l) ∧ Below w.heap.size w w' := by
  obtain ⟨i0, hi, hz0, hz1, hz2⟩ := info_parts info_int
  have HR := hide ((hr.below (Below.alloc (Below.refl w.heap.size w) (Nat.le_refl _) (.cells #[] 2))).more (B' := (w.alloc (.cells #[] 2)).heap.size) (by simp))
  clear hr
  go_enter Try.func15, Try.ntmps15
  go_wp2_with (at_builtin; refine wpList_append_own _ rfl _ _ 24 rfl w.heap.size 2 i0 (.int .i64 0) 1 8 Try.underlying24 hi hz0 hz1 hz2 rfl (by decide) _ _ _ rfl (Own.empty_ w 2 1 (Nat.le_refl _)) ad l.length c (ints l) rfl (by simp [ints]) (rdI_all HR.out) oneN (by unfold maxLen; omega) (by omega) (by simp) ?_)
  intro v' w1 hown hgrow _
  obtain ⟨A', c', rfl, hown⟩ := own_cases hown
  have HX := hide (And.intro hown hgrow)
  clear hown hgrow
  go_wp2
  go_ret
  exact ⟨A', c', rfl, HX.out.1, ((Below.refl _ _).alloc (Nat.le_refl _) _).grown HX.out.2 (by simp) (fun j hj => by simp [Value.ownBlock] at hj; omega)⟩
theorem l00Own_n (ad : Addr) (c n : Nat) (l : List Int) (w : World) (h : l.length = n) (hn : n ≤ 1048576) (hr : Rd w w.heap.size 1 (some ad) l.length (ints l)) :
    Calls Try.prog 15 #[.slice (some ad) n c] w fun e w' => ∃ A' c', e = .returned (.slice A' n c') ∧ Own w' w.heap.size 2 1 A' n c' (ints l) ∧ Below w.heap.size w w' := by
  subst h
  exact l00Own_any ad c l w hn hr
set_option maxHeartbeats 8000000 in
set_option maxRecDepth 100000 in
theorem spec_ByAmplitude_any (A : Option Addr) (c : Nat) (l : List StarT) (w : World) (hn : l.length ≤ 1048576) (hok : ∀ x ∈ l, x.ok) (hr : Rd w w.heap.size 5 A l.length (l.flatMap StarT.cells)) :
    Calls Try.prog 5 #[.slice A l.length c] w fun e w' => ∃ A' c', e = .returned (.tuple #[.slice A' (ampOf l).1.length c', .int .i64 (ampOf l).2]) ∧ Own w' w.heap.size 2 1 A' (ampOf l).1.length c' (ints (ampOf l).1) ∧ Below w.heap.size w w' := by
  obtain ⟨i0, hi, hz0, hz1, hz2⟩ := info_parts info_int
  have HR := hide hr
  have HO := hide hok
  clear hr hok
  cases h1 : validB starOk starLt 60 l
  · rw [show ampOf l = ([], 1) from by simp [ampOf, h1]]
    go_enter Try.func5, Try.ntmps5
    go_wp2_with fail
    refine (l04Ok_any A c l _ hn HO.out HR.out).mono ?_
    rintro e w1 ⟨rfl, b⟩
    go_wp2
    go_ret2
    exact ⟨none, 0, rfl, Own.none_, b⟩
  obtain ⟨hK, h60⟩ := kok h1
  rw [show ampOf l = (ampL (keyS l) l.length, 0) from by simp [ampOf, h1]]
  have HK := hide hK
  rw [ampL_len]
  clear hK
  go_enter Try.func5, Try.ntmps5
  go_wp2_with fail
  refine (l04Ok_any A c l _ hn HO.out HR.out).mono ?_
  rintro e w1 ⟨rfl, b⟩
  have B1 := hide b
  have R1 := hide ((HR.out.below b).more b.size)
  clear b
  go_wp2_with fail
  go_loopw [4, 5] (fun v ix wr => ∃ i : Nat, i ≤ l.length ∧ ix = .int .i64 i ∧ Below w1.heap.size w1 wr ∧ ∃ (go c' : Nat), v = .slice (some ⟨go, 0, none⟩) i c' ∧ Own wr w1.heap.size 2 1 (some ⟨go, 0, none⟩) i c' (ints (ampL (keyS l) i))) (fun _ ix _ => l.length - (intOf ix).toNat)
  case atStart => exact ⟨0, Nat.zero_le _, rfl, (Below.refl _ _).alloc (Nat.le_refl _) _, _, _, rfl, Own.empty_ _ _ _ (Nat.le_refl _)⟩
  case round =>
    obtain ⟨i, hil, rfl, hb, go, c', rfl, hown⟩ := hrel
    have HB := hide hb
    obtain ⟨out, hout⟩ : ∃ out, out = ampL (keyS l) i := ⟨_, rfl⟩
    have hol : out.length = i := by rw [hout, ampL_len]
    have HOUT := hide hout
    rw [← hout] at hown
    have HW := hide hown
    have hcap := hown.parts.2.1
    clear hb hown
    by_cases hlt : i < l.length
    · obtain ⟨gl, offl, rfl, hgl, hcl⟩ := (R1.out.below HB.out).elem StarT.cells_len hlt
      have hcl3 := hcl 3 _ rfl
      have hcl4 := hcl 4 _ rfl
      obtain ⟨bi, hbi⟩ : ∃ bi, bi = l[i].bri := ⟨_, rfl⟩
      obtain ⟨fi, hfi⟩ : ∃ fi, fi = l[i].fai := ⟨_, rfl⟩
      have hki := HK.out i hlt
      have hkey := keyS_at hlt
      rw [← hbi] at hki hcl3 hkey
      rw [← hfi] at hki hcl4 hkey
      have HKEY := hide hkey
      obtain ⟨m1, m2, m3, m4⟩ := hki
      have hwi : IntKind.i64.wrap (fi - bi) = fi - bi := by rw [IntKind.wrap_i64]; omega
      have i1 : (0 : Int) ≤ (i : Int) := by omega
      have i2 : (i : Int) < (l.length : Int) := by omega
      clear hcl hbi hfi hkey hout
      go_wp2_with fail
      go_loopw [6] (fun kx wq => ∃ k : Nat, k ≤ i ∧ kx = .int .i64 k ∧ (∃ m, wq = wr.drewN m) ∧ Hid (kp (keyS l) out i k = kp (keyS l) out i i)) (fun kx _ => (intOf kx).toNat)
      case atStart => exact ⟨i, Nat.le_refl _, rfl, ⟨0, rfl⟩, rfl⟩
      case round =>
        obtain ⟨k, hk, rfl, ⟨m, rfl⟩, HT⟩ := hrel
        by_cases h0 : 0 < k
        · obtain ⟨q, hq⟩ : ∃ q, q = k - 1 := ⟨_, rfl⟩
          have hqk : q < k := by omega
          have hqo : q < out.length := by omega
          obtain ⟨g', off', he, hg', hc⟩ := (show Rd wr wr.heap.size 1 (some ⟨go, 0, none⟩) out.length (ints out) from by rw [hol]; exact HW.out.rd).at_ hqo
          injection he with he
          injection he with he1 he2 _
          subst he1 he2
          have hy0 := ampL_lt (keyS l) i out[q] (by rw [← HOUT.out]; exact List.getElem_mem _)
          obtain ⟨y, hy⟩ : ∃ y : Nat, out[q] = (y : Int) := ⟨out[q].toNat, by omega⟩
          have fo : wr.cell? ⟨go, q, none⟩ = some (.int .i64 (y : Int)) := by
            have := hc q (.int .i64 out[q]) (by simp [ints, hqo])
            rw [Nat.zero_add, hy] at this
            exact this
          have hyl : y < l.length := by omega
          obtain ⟨gl2, offl2, he2, _, hcy⟩ := (R1.out.below HB.out).elem StarT.cells_len hyl
          injection he2 with he2
          injection he2 with he3 he4 _
          subst he3 he4
          have hcy3 := hcy 3 _ rfl
          have hcy4 := hcy 4 _ rfl
          obtain ⟨by', hby⟩ : ∃ by', by' = l[y].bri := ⟨_, rfl⟩
          obtain ⟨fy, hfy⟩ : ∃ fy, fy = l[y].fai := ⟨_, rfl⟩
          have hkiy := HK.out y hyl
          have hkeyy := keyS_at hyl
          rw [← hby] at hkiy hcy3 hkeyy
          rw [← hfy] at hkiy hcy4 hkeyy
          obtain ⟨p1, p2, p3, p4⟩ := hkiy
          have hwy : IntKind.i64.wrap (fy - by') = fy - by' := by rw [IntKind.wrap_i64]; omega
          have hd : (0 : Int) < (k : Int) := by omega
          have hwq : IntKind.i64.wrap ((k : Int) - 1) = (q : Int) := by rw [IntKind.wrap_i64]; omega
          have j1 : (0 : Int) ≤ (q : Int) := by omega
          have j2 : (q : Int) < (i : Int) := by omega
          have j3 : (0 : Int) ≤ (y : Int) := by omega
          have j4 : (y : Int) < (l.length : Int) := by omega
          have HY := hide (show kp (keyS l) out i k = if fy - by' < fi - bi then kp (keyS l) out i q else k from by
            obtain rfl : k = q + 1 := by omega
            rw [kp, List.getD_eq_getElem?_getD, List.getElem?_eq_getElem hqo]
            show (if keyS l i < keyS l out[q] then _ else _) = _
            rw [hy, hkeyy, HKEY.out]
            by_cases hx : fy - by' < fi - bi
            · rw [if_pos hx, if_pos (by omega)]
            · rw [if_neg hx, if_neg (by omega)])
          clear hc hcy hby hfy hkeyy hq hy0 hy
          by_cases hxy : fy - by' < fi - bi
          · go_wp2_with fail
            go_quiet (fail)
            go_wp2
            go_roundw
            case rel =>
              refine ⟨q, by omega, rfl, ⟨_, by first | rfl | exact World.drewN_drewN _ _ _⟩, ?_⟩
              have := HY.out
              rw [if_pos hxy] at this
              exact this.symm.trans HT.out
            case measure => simp [intOf]; omega
          · have hd2 : decide (fy - by' < fi - bi) = false := by simp; omega
            have HKP := hide (show k = kp (keyS l) out i i from by
              have := HY.out
              rw [if_neg hxy] at this
              exact this.symm.trans HT.out)
            go_wp2_with fail
            go_quiet (fail)
            obtain ⟨wq, hwq2⟩ : ∃ wq, wq = (wr.drewN m).drewN nq := ⟨_, rfl⟩
            have HBq := hide (show Below w1.heap.size w1 wq from hwq2 ▸ below_drewN (below_drewN HB.out _) _)
            have HOq := hide (show Own wq w1.heap.size 2 1 (some ⟨go, 0, none⟩) i c' (ints out) from hwq2 ▸ HW.out)
            rw [← hwq2]
            clear hwq2
            have htk : (out.take k).length = k := by rw [List.length_take]; omega
            have k1 : (0 : Int) ≤ (k : Int) := by omega
            have k2 : (k : Int) ≤ (i : Int) := by omega
            have k3 : (i : Int) ≤ (c' : Int) := by omega
            have k4 : k ≤ c' := by omega
            have ROUT := hide (show Rd wq wq.heap.size 1 (some ⟨go, 0, none⟩) out.length (ints out) from by rw [hol]; exact HOq.out.rd)
            have HIN := hide (show ints (ampL (keyS l) (i + 1)) = ints (out.take k) ++ [.int .i64 (i : Int)] ++ ints (out.drop k) from by
              rw [ampL, insA, ← HOUT.out, hol, ← HKP.out]
              simp [ints])
            go_wp2_with fail
            refine (l00Own_n ⟨go, 0, none⟩ c' k (out.take k) wq htk (by omega) (rdI_take ROUT.out (by omega))).mono ?_
            rintro e wa ⟨Ac, cc, rfl, v, b⟩
            have VV := hide (v.base (lo' := w1.heap.size) HBq.out.size)
            have HBa := hide (HBq.out.trans (b.mono HBq.out.size))
            have OOa := hide (HOq.out.below b)
            have APx := hide (HOq.out.apart v (Nat.le_refl _))
            clear v b
            go_wp2_with (at_builtin; refine wpList_append_own _ rfl _ _ 24 rfl w1.heap.size 2 i0 (.int .i64 0) 1 8 Try.underlying24 hi hz0 hz1 hz2 rfl (by decide) _ _ _ rfl (VV.out.alloc _) ⟨wa.heap.size, 0, none⟩ 1 1 [.int .i64 (i : Int)] rfl rfl ?c1 ?c2 ?c3 ?c4 ?c5 ?_)
            case c1 => exact c1_new rfl
            case c2 => intro u hu; simp at hu; subst hu; rfl
            case c3 => unfold maxLen; omega
            case c4 => omega
            case c5 => have := HBa.out.size; simp; omega
            intro v' w5 hown' hgrow _
            obtain ⟨g5, c5, he5, hown5⟩ := own_pos (by omega) hown'
            subst he5
            have HB5 := hide ((HBa.out.alloc HBa.out.size _).grown hgrow (by have := HBa.out.size; simp; omega) (fun j hj => (VV.out.lt hj).1))
            have O5 := hide hown5
            have ROZ := hide (show Rd w5 w5.heap.size 1 (some ⟨go, 0, none⟩) out.length (ints out) from by
              have hg2 : Only (wa.alloc (.cells #[.int .i64 (i : Int)] 2)) w5 Ac := by unfold Only; rw [ownBlock_any Ac 0 0 k cc]; exact hgrow
              have h := Own.far (show Own _ _ _ _ _ _ _ _ from OOa.out.alloc (.cells #[.int .i64 (i : Int)] 2)) hg2 APx.out
              rw [hol]
              exact Own.rd h)
            clear hown' hgrow hown5
            by_cases hkn : k = i
            · subst hkn
              by_cases hcn : c' = k
              · obtain rfl : k = c' := hcn.symm
                go_wp2_with (at_builtin; refine wpList_append_own _ rfl _ _ 24 rfl w1.heap.size 2 i0 (.int .i64 0) 1 8 Try.underlying24 hi hz0 hz1 hz2 rfl (by decide) _ (k + 1) _ rfl O5.out _ 0 _ [] rfl (by simp) (by simp) (by simp) (by unfold maxLen; omega) (by omega) HB5.out.size ?_)
                intro v3 wr3 hown hgrow _
                obtain ⟨g3, c3, he3, hown3⟩ := own_pos (by omega) hown
                subst he3
                have P3 := hide (HB5.out.grown hgrow HB5.out.size (fun q hq => (O5.out.lt (g := q) hq).1))
                have O3 := hide (show Own wr3 w1.heap.size 2 1 (some ⟨g3, 0, none⟩) (k + 1) c3 (ints (ampL (keyS l) (k + 1))) from hown3.fit1 (by omega) (by rw [HIN.out]; rw [List.drop_of_length_le (by omega)]; simp [ints]))
                clear hown hgrow hown3
                go_wp2
                go_roundw
                case rel => exact ⟨k + 1, by omega, by go_num, P3.out, g3, c3, slc_eq (by omega), O3.out⟩
                case measure => simp [intOf]; omega
              · have hcn2 : ¬ c' = k := hcn
                go_wp2_with (at_builtin; refine wpList_append_own _ rfl _ _ 24 rfl w1.heap.size 2 i0 (.int .i64 0) 1 8 Try.underlying24 hi hz0 hz1 hz2 rfl (by decide) _ (k + 1) _ rfl O5.out _ 0 _ [] rfl (by simp) (by simp) (by simp) (by unfold maxLen; omega) (by omega) HB5.out.size ?_)
                intro v3 wr3 hown hgrow _
                obtain ⟨g3, c3, he3, hown3⟩ := own_pos (by omega) hown
                subst he3
                have P3 := hide (HB5.out.grown hgrow HB5.out.size (fun q hq => (O5.out.lt (g := q) hq).1))
                have O3 := hide (show Own wr3 w1.heap.size 2 1 (some ⟨g3, 0, none⟩) (k + 1) c3 (ints (ampL (keyS l) (k + 1))) from hown3.fit1 (by omega) (by rw [HIN.out]; rw [List.drop_of_length_le (by omega)]; simp [ints]))
                clear hown hgrow hown3
                go_wp2
                go_roundw
                case rel => exact ⟨k + 1, by omega, by go_num, P3.out, g3, c3, slc_eq (by omega), O3.out⟩
                case measure => simp [intOf]; omega
            · have hck : ¬ c' = k := by omega
              have HD := hide (show ∀ t u, (ints (out.drop k))[t]? = some u → w5.cell? ((⟨go, 0 + k, none⟩ : Addr).add t) = some u from rdI_drop ROZ.out (by omega))
              simp only [Nat.zero_add] at HD
              go_wp2_with (at_builtin; refine wpList_append_own _ rfl _ _ 24 rfl w1.heap.size 2 i0 (.int .i64 0) 1 8 Try.underlying24 hi hz0 hz1 hz2 rfl (by decide) _ (k + 1) _ rfl O5.out ⟨go, k, none⟩ (i - k) _ (ints (out.drop k)) rfl (by simp only [ints, List.length_map, List.length_drop]; omega) HD.out oneN (by unfold maxLen; omega) (by omega) HB5.out.size ?_)
              intro v3 wr3 hown hgrow _
              obtain ⟨g3, c3, he3, hown3⟩ := own_pos (by omega) hown
              subst he3
              have P3 := hide (HB5.out.grown hgrow HB5.out.size (fun q hq => (O5.out.lt (g := q) hq).1))
              have O3 := hide (show Own wr3 w1.heap.size 2 1 (some ⟨g3, 0, none⟩) (i + 1) c3 (ints (ampL (keyS l) (i + 1))) from hown3.fit1 (by omega) (by rw [HIN.out]; simp))
              clear hown hgrow hown3
              go_wp2
              go_roundw
              case rel => exact ⟨i + 1, by omega, by go_num, P3.out, g3, c3, slc_eq (by omega), O3.out⟩
              case measure => simp [intOf]; omega
        · have hd : decide ((0 : Int) < (k : Int)) = false := by simp; omega
          have HKP := hide (show k = kp (keyS l) out i i from by
            have h := HT.out
            rw [show k = 0 by omega] at h ⊢
            rw [← h]; rfl)
          go_wp2_with fail
          go_quiet (fail)
          obtain ⟨wq, hwq2⟩ : ∃ wq, wq = (wr.drewN m).drewN nq := ⟨_, rfl⟩
          have HBq := hide (show Below w1.heap.size w1 wq from hwq2 ▸ below_drewN (below_drewN HB.out _) _)
          have HOq := hide (show Own wq w1.heap.size 2 1 (some ⟨go, 0, none⟩) i c' (ints out) from hwq2 ▸ HW.out)
          rw [← hwq2]
          clear hwq2
          have htk : (out.take k).length = k := by rw [List.length_take]; omega
          have k1 : (0 : Int) ≤ (k : Int) := by omega
          have k2 : (k : Int) ≤ (i : Int) := by omega
          have k3 : (i : Int) ≤ (c' : Int) := by omega
          have k4 : k ≤ c' := by omega
          have ROUT := hide (show Rd wq wq.heap.size 1 (some ⟨go, 0, none⟩) out.length (ints out) from by rw [hol]; exact HOq.out.rd)
          have HIN := hide (show ints (ampL (keyS l) (i + 1)) = ints (out.take k) ++ [.int .i64 (i : Int)] ++ ints (out.drop k) from by
            rw [ampL, insA, ← HOUT.out, hol, ← HKP.out]
            simp [ints])
          go_wp2_with fail
          refine (l00Own_n ⟨go, 0, none⟩ c' k (out.take k) wq htk (by omega) (rdI_take ROUT.out (by omega))).mono ?_
          rintro e wa ⟨Ac, cc, rfl, v, b⟩
          have VV := hide (v.base (lo' := w1.heap.size) HBq.out.size)
          have HBa := hide (HBq.out.trans (b.mono HBq.out.size))
          have OOa := hide (HOq.out.below b)
          have APx := hide (HOq.out.apart v (Nat.le_refl _))
          clear v b
          go_wp2_with (at_builtin; refine wpList_append_own _ rfl _ _ 24 rfl w1.heap.size 2 i0 (.int .i64 0) 1 8 Try.underlying24 hi hz0 hz1 hz2 rfl (by decide) _ _ _ rfl (VV.out.alloc _) ⟨wa.heap.size, 0, none⟩ 1 1 [.int .i64 (i : Int)] rfl rfl ?c1 ?c2 ?c3 ?c4 ?c5 ?_)
          case c1 => exact c1_new rfl
          case c2 => intro u hu; simp at hu; subst hu; rfl
          case c3 => unfold maxLen; omega
          case c4 => omega
          case c5 => have := HBa.out.size; simp; omega
          intro v' w5 hown' hgrow _
          obtain ⟨g5, c5, he5, hown5⟩ := own_pos (by omega) hown'
          subst he5
          have HB5 := hide ((HBa.out.alloc HBa.out.size _).grown hgrow (by have := HBa.out.size; simp; omega) (fun j hj => (VV.out.lt hj).1))
          have O5 := hide hown5
          have ROZ := hide (show Rd w5 w5.heap.size 1 (some ⟨go, 0, none⟩) out.length (ints out) from by
            have hg2 : Only (wa.alloc (.cells #[.int .i64 (i : Int)] 2)) w5 Ac := by unfold Only; rw [ownBlock_any Ac 0 0 k cc]; exact hgrow
            have h := Own.far (show Own _ _ _ _ _ _ _ _ from OOa.out.alloc (.cells #[.int .i64 (i : Int)] 2)) hg2 APx.out
            rw [hol]
            exact Own.rd h)
          clear hown' hgrow hown5
          by_cases hkn : k = i
          · subst hkn
            by_cases hcn : c' = k
            · obtain rfl : k = c' := hcn.symm
              go_wp2_with (at_builtin; refine wpList_append_own _ rfl _ _ 24 rfl w1.heap.size 2 i0 (.int .i64 0) 1 8 Try.underlying24 hi hz0 hz1 hz2 rfl (by decide) _ (k + 1) _ rfl O5.out _ 0 _ [] rfl (by simp) (by simp) (by simp) (by unfold maxLen; omega) (by omega) HB5.out.size ?_)
              intro v3 wr3 hown hgrow _
              obtain ⟨g3, c3, he3, hown3⟩ := own_pos (by omega) hown
              subst he3
              have P3 := hide (HB5.out.grown hgrow HB5.out.size (fun q hq => (O5.out.lt (g := q) hq).1))
              have O3 := hide (show Own wr3 w1.heap.size 2 1 (some ⟨g3, 0, none⟩) (k + 1) c3 (ints (ampL (keyS l) (k + 1))) from hown3.fit1 (by omega) (by rw [HIN.out]; rw [List.drop_of_length_le (by omega)]; simp [ints]))
              clear hown hgrow hown3
              go_wp2
              go_roundw
              case rel => exact ⟨k + 1, by omega, by go_num, P3.out, g3, c3, slc_eq (by omega), O3.out⟩
              case measure => simp [intOf]; omega
            · have hcn2 : ¬ c' = k := hcn
              go_wp2_with (at_builtin; refine wpList_append_own _ rfl _ _ 24 rfl w1.heap.size 2 i0 (.int .i64 0) 1 8 Try.underlying24 hi hz0 hz1 hz2 rfl (by decide) _ (k + 1) _ rfl O5.out _ 0 _ [] rfl (by simp) (by simp) (by simp) (by unfold maxLen; omega) (by omega) HB5.out.size ?_)
              intro v3 wr3 hown hgrow _
              obtain ⟨g3, c3, he3, hown3⟩ := own_pos (by omega) hown
              subst he3
              have P3 := hide (HB5.out.grown hgrow HB5.out.size (fun q hq => (O5.out.lt (g := q) hq).1))
              have O3 := hide (show Own wr3 w1.heap.size 2 1 (some ⟨g3, 0, none⟩) (k + 1) c3 (ints (ampL (keyS l) (k + 1))) from hown3.fit1 (by omega) (by rw [HIN.out]; rw [List.drop_of_length_le (by omega)]; simp [ints]))
              clear hown hgrow hown3
              go_wp2
              go_roundw
              case rel => exact ⟨k + 1, by omega, by go_num, P3.out, g3, c3, slc_eq (by omega), O3.out⟩
              case measure => simp [intOf]; omega
          · have hck : ¬ c' = k := by omega
            have HD := hide (show ∀ t u, (ints (out.drop k))[t]? = some u → w5.cell? ((⟨go, 0 + k, none⟩ : Addr).add t) = some u from rdI_drop ROZ.out (by omega))
            simp only [Nat.zero_add] at HD
            go_wp2_with (at_builtin; refine wpList_append_own _ rfl _ _ 24 rfl w1.heap.size 2 i0 (.int .i64 0) 1 8 Try.underlying24 hi hz0 hz1 hz2 rfl (by decide) _ (k + 1) _ rfl O5.out ⟨go, k, none⟩ (i - k) _ (ints (out.drop k)) rfl (by simp only [ints, List.length_map, List.length_drop]; omega) HD.out oneN (by unfold maxLen; omega) (by omega) HB5.out.size ?_)
            intro v3 wr3 hown hgrow _
            obtain ⟨g3, c3, he3, hown3⟩ := own_pos (by omega) hown
            subst he3
            have P3 := hide (HB5.out.grown hgrow HB5.out.size (fun q hq => (O5.out.lt (g := q) hq).1))
            have O3 := hide (show Own wr3 w1.heap.size 2 1 (some ⟨g3, 0, none⟩) (i + 1) c3 (ints (ampL (keyS l) (i + 1))) from hown3.fit1 (by omega) (by rw [HIN.out]; simp))
            clear hown hgrow hown3
            go_wp2
            go_roundw
            case rel => exact ⟨i + 1, by omega, by go_num, P3.out, g3, c3, slc_eq (by omega), O3.out⟩
            case measure => simp [intOf]; omega
    · obtain rfl : i = l.length := by omega
      rw [hout] at HW
      go_wp2
      go_ret2
      exact ⟨_, _, rfl, HW.out.base B1.out.size, B1.out.trans (HB.out.mono B1.out.size)⟩
theorem spec_ByAmplitude_val {l : List StarT} {res : List Int} {code : Int} (hF : (res, code) = ampOf l) (A : Option Addr) (c : Nat) (w : World) (hn : l.length ≤ 1048576) (hok : ∀ x ∈ l, x.ok) (hr : Rd w w.heap.size 5 A l.length (l.flatMap StarT.cells)) :
    Calls Try.prog 5 #[.slice A l.length c] w fun e w' => ∃ A' c', e = .returned (.tuple #[.slice A' res.length c', .int .i64 code]) ∧ Own w' w.heap.size 2 1 A' res.length c' (ints res) ∧ Below w.heap.size w w' := by
  have h := spec_ByAmplitude_any A c l w hn hok hr
  rw [← hF] at h
  exact h
theorem impl_ByAmplitude_val {l : List StarT} {res : List Int} {code : Int} (hF : (res, code) = ampOf l) (A : Option Addr) (c : Nat) (w : World) (hn : l.length ≤ 1048576) (hok : ∀ x ∈ l, x.ok) (hr : Rd w w.heap.size 5 A l.length (l.flatMap StarT.cells)) :
    Calls Try.prog 7 #[.slice A l.length c] w fun e w' => ∃ A' c', e = .returned (.tuple #[.slice A' res.length c', .int .i64 code]) ∧ Own w' w.heap.size 2 1 A' res.length c' (ints res) ∧ Below w.heap.size w w' := by
  have h := impl_ByAmplitude_any A c l w hn hok hr
  rw [← hF] at h
  exact h
theorem ampS_end : True := trivial
end Go.Proofs.Ythgppfbepfgelaa
