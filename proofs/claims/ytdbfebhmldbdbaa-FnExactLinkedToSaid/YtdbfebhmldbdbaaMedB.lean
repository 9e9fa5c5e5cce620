/-
  Contracts: the reference's sort and its median.
-/
import Derived.Test.YtdbfebhmldbdbaaMed
import Derived.Test.YtdbfebhmldbdbaaCut
import Derived.Deep.AppendLies
namespace Go.Proofs.Ytdbfebhmldbdbaa
open Go.RowKit Pl
set_option linter.unusedVariables false
set_option linter.unusedSimpArgs false
theorem oneN {l : List Int} : ∀ u ∈ ints l, u.oneCell' = true := by
  intro u hu
  simp only [ints, List.mem_map] at hu
  obtain ⟨x, _, rfl⟩ := hu
  rfl
theorem add_lit' (b o j : Nat) : (⟨b, o, none⟩ : Addr).add j = ⟨b, o + j, none⟩ := by unfold Addr.add; split <;> simp_all
theorem rdI_all {w : World} {B : Nat} {ad : Addr} {l : List Int} (h : Rd w B 1 (some ad) l.length (ints l)) : ∀ t u, (ints l)[t]? = some u → w.cell? (ad.add t) = some u := by
  intro t u hu
  rcases Nat.eq_zero_or_pos l.length with h0 | h0
  · have : l = [] := List.eq_nil_of_length_eq_zero h0
    subst this
    simp [ints] at hu
  · obtain ⟨g, off, he, _, hc⟩ := h.2 h0
    injection he with he
    subst he
    rw [add_lit']
    exact hc t u hu
theorem rdI_take {w : World} {B g off : Nat} {l : List Int} (h : Rd w B 1 (some ⟨g, off, none⟩) l.length (ints l)) {j : Nat} (hj : j ≤ l.length) : Rd w B 1 (some ⟨g, off, none⟩) (l.take j).length (ints (l.take j)) := by
  refine ⟨by simp [ints], fun h0 => ?_⟩
  obtain ⟨g', off', he, hg, hc⟩ := h.2 (by simp at h0; omega)
  injection he with he
  injection he with he1 he2 _
  subst he1 he2
  refine ⟨g, off, rfl, hg, fun t u hu => hc t u ?_⟩
  simp only [ints, List.map_take] at hu ⊢
  rcases Nat.lt_or_ge t j with h3 | h3
  · rwa [List.getElem?_take_of_lt h3] at hu
  · rw [List.getElem?_eq_none (by simp; omega)] at hu
    cases hu
theorem rdI_drop {w : World} {B g off : Nat} {l : List Int} (h : Rd w B 1 (some ⟨g, off, none⟩) l.length (ints l)) {j : Nat} (hj : j < l.length) : ∀ t u, (ints (l.drop j))[t]? = some u → w.cell? ((⟨g, off + j, none⟩ : Addr).add t) = some u := by
  intro t u hu
  obtain ⟨g', off', he, _, hc⟩ := h.2 (by omega)
  injection he with he
  injection he with he1 he2 _
  subst he1 he2
  rw [add_lit']
  simp only [ints, List.map_drop, List.getElem?_drop] at hu
  have := hc (j + t) u hu
  rw [← Nat.add_assoc] at this
  exact this
def Sd (l : List Int) : Prop := l.Pairwise (· ≤ ·)
theorem srt_sd (l : List Int) : Sd (srt l) := by
  have := List.pairwise_mergeSort (le := fun x y : Int => decide (x ≤ y)) (fun a b c h1 h2 => by simp only [decide_eq_true_eq] at *; omega) (fun a b => by simp only [Bool.or_eq_true, decide_eq_true_eq]; omega) l
  exact this.imp (fun h => by simpa using h)
theorem srt_uniq {l m : List Int} (hp : m.Perm l) (hs : Sd m) : m = srt l :=
  List.Perm.eq_of_pairwise (le := fun a b : Int => a ≤ b) (fun a b _ _ h1 h2 => by omega) hs (srt_sd l) (hp.trans (srt_perm l).symm)
theorem srt_congr {l m : List Int} (h : l.Perm m) : srt l = srt m := srt_uniq ((srt_perm l).trans h) (srt_sd l)
theorem sd_le {l : List Int} (h : Sd l) {i j : Nat} (hij : i ≤ j) (hj : j < l.length) : l[i]'(by omega) ≤ l[j] := by
  rcases Nat.lt_or_ge i j with h0 | h0
  · exact List.pairwise_iff_getElem.1 h i j (by omega) hj h0
  · have : i = j := by omega
    subst this
    exact Int.le_refl _
def putI (l : List Int) (k : Nat) (x : Int) : List Int := l.take k ++ x :: l.drop k
theorem putI_len {l : List Int} {k : Nat} {x : Int} (h : k ≤ l.length) : (putI l k x).length = l.length + 1 := by simp [putI]; omega
theorem putI_perm {l : List Int} {k : Nat} {x : Int} : (putI l k x).Perm (x :: l) := by
  have := List.perm_middle (a := x) (l₁ := l.take k) (l₂ := l.drop k)
  rw [List.take_append_drop] at this
  exact this
theorem putI_sd {l : List Int} {k : Nat} {x : Int} (hs : Sd l) (hk : k ≤ l.length) (h1 : ∀ t (h : t < l.length), k ≤ t → x < l[t]) (h2 : ∀ (h : k - 1 < l.length), 0 < k → l[k - 1] ≤ x) : Sd (putI l k x) := by
  have hs2 : (l.take k ++ l.drop k).Pairwise (· ≤ ·) := by rw [List.take_append_drop]; exact hs
  obtain ⟨ha, hb, hc⟩ := List.pairwise_append.1 hs2
  refine List.pairwise_append.2 ⟨ha, List.pairwise_cons.2 ⟨fun y hy => ?_, hb⟩, fun a ham b hbm => ?_⟩
  · obtain ⟨t, ht, rfl⟩ := List.getElem_of_mem hy
    rw [List.getElem_drop]
    exact Int.le_of_lt (h1 _ _ (by omega))
  · rcases List.mem_cons.1 hbm with rfl | hbm
    · obtain ⟨t, ht, rfl⟩ := List.getElem_of_mem ham
      rw [List.getElem_take]
      simp at ht
      exact Int.le_trans (sd_le hs (show t ≤ k - 1 by omega) (by omega)) (h2 (by omega) (by omega))
    · exact hc a ham b hbm
theorem ints_putI (l : List Int) (k : Nat) (x : Int) : ints (putI l k x) = ints (l.take k) ++ [.int .i64 x] ++ ints (l.drop k) := by simp [ints, putI]
theorem own_pos {w : World} {lo n k : Nat} {E : TypeId} {v : Value} {xs : List Value} (h0 : 0 < n) (h : w.ownsRow lo E k v n xs) : ∃ g c, v = .slice (some ⟨g, 0, none⟩) n c ∧ Own w lo E k (some ⟨g, 0, none⟩) n c xs := by
  obtain ⟨A, c, rfl, h2⟩ := own_cases h
  obtain ⟨_, _, _, ⟨_, h3, _⟩ | ⟨g, _, rfl, _⟩⟩ := h2.parts
  · omega
  · exact ⟨g, c, rfl, h2⟩
theorem slc_eq {A : Option Addr} {n m c : Nat} (h : n = m) : Value.slice A n c = Value.slice A m c := by rw [h]
theorem Own.fit1 {w : World} {lo n m k c : Nat} {E : TypeId} {A : Option Addr} {xs ys : List Value} (h : Own w lo E k A n c xs) (hn : n = m) (hx : xs = ys) : Own w lo E k A m c ys := by subst hn hx; exact h
theorem putI_next {out l : List Int} {i k : Nat} (hi : i < l.length) (hp : out.Perm (l.take i)) : (putI out k l[i]).Perm (l.take (i + 1)) := by
  rw [take_next hi]
  exact putI_perm.trans ((hp.cons _).trans (List.perm_append_singleton _ _).symm)
set_option maxHeartbeats 1000000 in
theorem l00Own_any (ad : Addr) (c : Nat) (l : List Int) (w : World) (hn : l.length ≤ 1048576) (hr : Rd w w.heap.size 1 (some ad) l.length (ints l)) :
    Calls Try.prog 51 #[.slice (some ad) l.length c] w fun e w' => ∃ A' c', e = .returned (.slice A' l.length c') ∧ Own w' w.heap.size 2 1 A' l.length c' (ints l) ∧ Below w.heap.size w w' := by
  obtain ⟨i0, hi, hz0, hz1, hz2⟩ := info_parts info_i64
  have HR := hide ((hr.below (Below.alloc (Below.refl w.heap.size w) (Nat.le_refl _) (.cells #[] 2))).more (B' := (w.alloc (.cells #[] 2)).heap.size) (by simp))
  clear hr
  go_enter Try.func51, Try.ntmps51
  go_wp2_with (at_builtin; refine wpList_append_own _ rfl _ _ 22 rfl w.heap.size 2 i0 (.int .i64 0) 1 8 Try.underlying22 hi hz0 hz1 hz2 rfl (by decide) _ _ _ rfl (Own.empty_ w 2 1 (Nat.le_refl _)) ad l.length c (ints l) rfl (by simp [ints]) (rdI_all HR.out) oneN (by unfold maxLen; omega) (by omega) (by simp) ?_)
  intro v' w1 hown hgrow _
  obtain ⟨A', c', rfl, hown⟩ := own_cases hown
  have HX := hide (And.intro hown hgrow)
  clear hown hgrow
  go_wp2
  go_ret
  exact ⟨A', c', rfl, HX.out.1, ((Below.refl _ _).alloc (Nat.le_refl _) _).grown HX.out.2 (by simp) (fun j hj => by simp [Value.ownBlock] at hj; omega)⟩
theorem l00Own_n (ad : Addr) (c n : Nat) (l : List Int) (w : World) (h : l.length = n) (hn : n ≤ 1048576) (hr : Rd w w.heap.size 1 (some ad) l.length (ints l)) :
    Calls Try.prog 51 #[.slice (some ad) n c] w fun e w' => ∃ A' c', e = .returned (.slice A' n c') ∧ Own w' w.heap.size 2 1 A' n c' (ints l) ∧ Below w.heap.size w w' := by
  subst h
  exact l00Own_any ad c l w hn hr
set_option maxHeartbeats 4000000 in
set_option maxRecDepth 100000 in
theorem l02Sort_any (A : Option Addr) (c : Nat) (l : List Int) (w : World) (hn : l.length ≤ 1048576) (hr : Rd w w.heap.size 1 A l.length (ints l)) :
    Calls Try.prog 42 #[.slice A l.length c] w fun e w' => ∃ A' c', e = .returned (.slice A' l.length c') ∧ Own w' w.heap.size 2 1 A' l.length c' (ints (srt l)) ∧ Below w.heap.size w w' := by
  obtain ⟨i0, hi, hz0, hz1, hz2⟩ := info_parts info_i64
  have HR := hide hr
  clear hr
  go_enter Try.func42, Try.ntmps42
  go_wp2_with fail
  go_loopw [3, 4] (fun v ix wr => ∃ i : Nat, i ≤ l.length ∧ ix = .int .i64 i ∧ Below w.heap.size w wr ∧ ∃ (out : List Int) (g c' : Nat), out.length = i ∧ v = .slice (some ⟨g, 0, none⟩) i c' ∧ Own wr w.heap.size 2 1 (some ⟨g, 0, none⟩) i c' (ints out) ∧ Hid (out.Perm (l.take i) ∧ Sd out)) (fun _ ix _ => l.length - (intOf ix).toNat)
  case atStart => exact ⟨0, Nat.zero_le _, rfl, (Below.refl _ _).alloc (Nat.le_refl _) _, [], _, _, rfl, rfl, Own.empty_ _ _ _ (Nat.le_refl _), ⟨by simp, List.Pairwise.nil⟩⟩
  case round =>
    obtain ⟨i, hil, rfl, hb, out, g, c', hol, rfl, hown, HS⟩ := hrel
    have HB := hide hb
    have HO := hide hown
    have hcap := hown.parts.2.1
    clear hb hown
    by_cases hlt : i < l.length
    · obtain ⟨gl, offl, rfl, hgl, hcl⟩ := (HR.out.below HB.out).int hlt
      obtain ⟨x, hx⟩ : ∃ x, x = l[i] := ⟨_, rfl⟩
      rw [← hx] at hcl
      have HX := hide hx
      clear hx
      have i1 : (0 : Int) ≤ (i : Int) := by omega
      have i2 : (i : Int) < (l.length : Int) := by omega
      go_wp2_with fail
      go_loopw [5] (fun kx wq => ∃ k : Nat, k ≤ i ∧ kx = .int .i64 k ∧ (∃ m, wq = wr.drewN m) ∧ Hid (∀ t (h : t < out.length), k ≤ t → x < out[t])) (fun kx _ => (intOf kx).toNat)
      case atStart => exact ⟨i, Nat.le_refl _, rfl, ⟨0, rfl⟩, fun t h h2 => absurd h2 (by omega)⟩
      case round =>
        obtain ⟨k, hk, rfl, ⟨m, rfl⟩, HT⟩ := hrel
        have ROUT := hide (show Rd wr wr.heap.size 1 (some ⟨g, 0, none⟩) out.length (ints out) from by rw [hol]; exact HO.out.rd)
        by_cases h0 : 0 < k
        · obtain ⟨q, hq⟩ : ∃ q, k = q + 1 := ⟨k - 1, by omega⟩
          have hqo : q < out.length := by omega
          obtain ⟨g', off', he, hg', hc⟩ := ROUT.out.int hqo
          injection he with he
          injection he with he1 he2 _
          subst he1 he2
          obtain ⟨y, hy⟩ : ∃ y, y = out[q] := ⟨_, rfl⟩
          rw [← hy] at hc
          have HY := hide hy
          clear hy
          have hd : (0 : Int) < (k : Int) := by omega
          have hq2 : (k : Int) - 1 = (q : Int) := by omega
          have hwq : IntKind.i64.wrap (q : Int) = (q : Int) := by rw [IntKind.wrap_i64]; omega
          have j1 : (0 : Int) ≤ (q : Int) := by omega
          have j2 : (q : Int) < (i : Int) := by omega
          simp only [Nat.zero_add] at hc
          by_cases hxy : x < y
          · have HJ := hide hq
            clear hq
            go_wp2_with fail
            go_quiet (fail)
            go_wp2
            go_roundw
            case rel =>
              have hq := HJ.out
              refine ⟨q, by omega, by go_num, ⟨_, by first | rfl | exact World.drewN_drewN _ _ _⟩, fun t h ht => ?_⟩
              rcases Nat.lt_or_ge q t with h3 | h3
              · exact HT.out t h (by omega)
              · have : t = q := by omega
                subst this
                rw [← HY.out]
                exact hxy
            case measure => have hq := HJ.out; simp [intOf]; omega
          · have hd2 : decide (x < y) = false := by simp; omega
            have HK := hide (show Sd (putI out k x) from putI_sd HS.out.2 (by omega) HT.out (fun h _ => by
              have e : k - 1 = q := by omega
              simp only [e]
              rw [← HY.out]
              omega))
            clear hq
            go_wp2_with fail
            go_quiet (fail)
            obtain ⟨wq, hwq⟩ : ∃ wq, wq = (wr.drewN m).drewN nq := ⟨_, rfl⟩
            have HBq := hide (show Below w.heap.size w wq from hwq ▸ below_drewN (below_drewN HB.out _) _)
            have HOq := hide (show Own wq w.heap.size 2 1 (some ⟨g, 0, none⟩) i c' (ints out) from hwq ▸ HO.out)
            clear ROUT
            have ROUT := hide (show Rd wq wq.heap.size 1 (some ⟨g, 0, none⟩) out.length (ints out) from by rw [hol]; exact HOq.out.rd)
            have hclq : wq.cell? ⟨gl, offl + i, none⟩ = some (.int .i64 x) := by rw [hwq]; exact hcl
            have hglq : gl < wq.heap.size := by have := HBq.out.size; omega
            rw [← hwq]
            have htk : (out.take k).length = k := by rw [List.length_take]; omega
            have k1 : (0 : Int) ≤ (k : Int) := by omega
            have k2 : (k : Int) ≤ (i : Int) := by omega
            have k3 : (i : Int) ≤ (c' : Int) := by omega
            have k4 : k ≤ c' := by omega
            clear hwq
            have UU := hide ((Below.refl wq.heap.size wq).drew)
            go_wp2_with fail
            go_region_held3 (fun w' => w'.cell? ⟨gl, offl + i, none⟩ = some (.int .i64 x)) (go_keep)
              (first | (go_at_call 51; (first | (with_reducible (show Calls _ _ _ (World.drew wq) _); have hC := l00Own_n ⟨g, 0, none⟩ c' k (out.take k) wq.drew htk (by omega) ((rdI_take (ROUT.out.below ((UU.out).mono (Nat.le_refl _))) (by omega)).more (UU.out).size); refine hC.mono ?_; clear hC; rintro e wa ⟨Ac, cc, rfl, v, b⟩; have VV := hide (v.base (lo' := wq.heap.size) (by simp)); have UA := hide ((UU.out).trans (b.mono (UU.out).size))) | (with_reducible (show Calls _ _ _ (World.drew (World.alloc _ _)) _); have hC := l00Own_n ⟨g, 0, none⟩ c' k (out.take k) (wq.alloc (.cells #[.int .i64 x] 2)).drew htk (by omega) ((rdI_take (ROUT.out.below ((((Below.refl wq.heap.size wq).alloc (Nat.le_refl _) (.cells #[.int .i64 x] 2)).drew).mono (Nat.le_refl _))) (by omega)).more (((Below.refl wq.heap.size wq).alloc (Nat.le_refl _) (.cells #[.int .i64 x] 2)).drew).size); refine hC.mono ?_; clear hC; rintro e wa ⟨Ac, cc, rfl, v, b⟩; have VN := hide (show ∀ g, (Value.slice Ac 0 0).ownBlock = some g → wq.heap.size < g from fun g hg => by have := (v.lt (g := g) (by rw [← hg]; exact ownBlock_any _ _ _ _ _)).1; simp at this; omega); have VB := hide (show Bk wa wq.heap.size 2 #[.int .i64 x] from ((Bk.new wq 2 #[.int .i64 x]).drew).below b (by simp)); have VV := hide (v.base (lo' := wq.heap.size) (by simp)); have UA := hide ((((Below.refl wq.heap.size wq).alloc (Nat.le_refl _) (.cells #[.int .i64 x] 2)).drew).trans (b.mono (((Below.refl wq.heap.size wq).alloc (Nat.le_refl _) (.cells #[.int .i64 x] 2)).drew).size)))); clear v b; have dd := (UA.out.cell (p := ⟨gl, offl + i, none⟩) hglq).trans hclq) | (refine step_append_lies _ (by rfl) _ _ _ (by rfl) wq.heap.size 2 i0 _ 1 8 Try.underlying22 hi hz0 hz1 hz2 rfl (by omega) (.slice Ac k cc) k (ints (out.take k)) (by rfl) (VV.out.below (Below.alloc (Below.refl wa.heap.size wa) (Nat.le_refl _) (.cells #[.int .i64 x] 2))) ⟨wa.heap.size, 0, none⟩ 1 1 [.int .i64 x] (by rfl) (by rfl) (World.news_of_block (cs := #[.int .i64 x]) (t := 2) (fr := (0, 0)) (heap_alloc_new wa _)) (by simp [Value.oneCell']) (by omega) (by unfold maxLen; omega) (by omega) (by have := UA.out.size; (try simp); omega) (wa.heap.size + 1) (by simp) ?_; intro gg cap w5 hown1 hgrow hat hlt9; have T5 := hide (show Below wq.heap.size wq w5 from (UA.out.alloc UA.out.size (.cells #[.int .i64 x] 2)).grown hgrow (by have := UA.out.size; (try simp); omega) (fun q hq => (VV.out.lt (g := q) hq).1)); have O5 := hide (show Own w5 wq.heap.size 2 1 (some ⟨gg, 0, none⟩) (k + 1) cap (ints (out.take k) ++ [.int .i64 x]) from hown1); clear hown1 hgrow hat hlt9; have dd5 := (T5.out.cell (p := ⟨gl, offl + i, none⟩) hglq).trans hclq) | (refine step_append_lies _ (by rfl) _ _ _ (by rfl) wq.heap.size 2 i0 _ 1 8 Try.underlying22 hi hz0 hz1 hz2 rfl (by omega) (.slice Ac k cc) k (ints (out.take k)) (by rfl) VV.out ⟨wq.heap.size, 0, none⟩ 1 1 [.int .i64 x] (by rfl) (by rfl) (World.news_of_block (cs := #[.int .i64 x]) (t := 2) (fr := (0, 0)) VB.out) (by simp [Value.oneCell']) (by omega) (by unfold maxLen; omega) (by omega) (by have := UA.out.size; (try simp); omega) wa.heap.size rfl ?_; intro gg cap w5 hown1 hgrow hat hlt9; have T5 := hide (show Below wq.heap.size wq w5 from (UA.out).grown hgrow (by have := UA.out.size; (try simp); omega) (fun q hq => (VV.out.lt (g := q) hq).1)); have O5 := hide (show Own w5 wq.heap.size 2 1 (some ⟨gg, 0, none⟩) (k + 1) cap (ints (out.take k) ++ [.int .i64 x]) from hown1); clear hown1 hgrow hat hlt9; have dd5 := (T5.out.cell (p := ⟨gl, offl + i, none⟩) hglq).trans hclq))
            all_goals
              have HBz := hide (show Below w.heap.size w w5 from HBq.out.trans (T5.out.mono HBq.out.size))
              have O5b := hide (O5.out.base (lo' := w.heap.size) HBq.out.size)
              have ROZ := hide (show Rd w5 w5.heap.size 1 (some ⟨g, 0, none⟩) out.length (ints out) from (ROUT.out.below T5.out).more T5.out.size)
              by_cases hkn : k = i
              · subst hkn
                by_cases hcn : c' = k
                · obtain rfl : k = c' := hcn.symm
                  go_wp2_with (at_builtin; refine wpList_append_own _ rfl _ _ 22 rfl w.heap.size 2 i0 (.int .i64 0) 1 8 Try.underlying22 hi hz0 hz1 hz2 rfl (by decide) _ (k + 1) _ rfl O5b.out _ 0 _ [] rfl (by simp) (by simp) (by simp) (by unfold maxLen; omega) (by omega) HBz.out.size ?_)
                  intro v3 wr3 hown hgrow _
                  obtain ⟨g3, c3, he3, hown3⟩ := own_pos (by omega) hown
                  subst he3
                  have P3 := hide (show Below w.heap.size w wr3 from HBz.out.grown hgrow HBz.out.size (fun q hq => (O5b.out.lt (g := q) hq).1))
                  have O3 := hide (show Own wr3 w.heap.size 2 1 (some ⟨g3, 0, none⟩) (k + 1) c3 (ints (putI out k x)) from hown3.fit1 (by omega) (by rw [ints_putI, List.drop_of_length_le (by omega)]; simp [ints]))
                  have HP := hide (show (putI out k x).Perm (l.take (k + 1)) from by have := putI_next (k := k) (out := out) hlt HS.out.1; rw [← HX.out] at this; exact this)
                  have HL := hide (show (putI out k x).length = k + 1 from by rw [putI_len (by omega)]; omega)
                  clear hown hgrow hown3
                  go_wp2
                  go_roundw
                  case rel => exact ⟨k + 1, by omega, by go_num, P3.out, putI out k x, g3, c3, HL.out, slc_eq (by omega), O3.out, ⟨HP.out, HK.out⟩⟩
                  case measure => simp [intOf]; omega
                · have hcn2 : ¬ c' = k := hcn
                  go_wp2_with (at_builtin; refine wpList_append_own _ rfl _ _ 22 rfl w.heap.size 2 i0 (.int .i64 0) 1 8 Try.underlying22 hi hz0 hz1 hz2 rfl (by decide) _ (k + 1) _ rfl O5b.out _ 0 _ [] rfl (by simp) (by simp) (by simp) (by unfold maxLen; omega) (by omega) HBz.out.size ?_)
                  intro v3 wr3 hown hgrow _
                  obtain ⟨g3, c3, he3, hown3⟩ := own_pos (by omega) hown
                  subst he3
                  have P3 := hide (show Below w.heap.size w wr3 from HBz.out.grown hgrow HBz.out.size (fun q hq => (O5b.out.lt (g := q) hq).1))
                  have O3 := hide (show Own wr3 w.heap.size 2 1 (some ⟨g3, 0, none⟩) (k + 1) c3 (ints (putI out k x)) from hown3.fit1 (by omega) (by rw [ints_putI, List.drop_of_length_le (by omega)]; simp [ints]))
                  have HP := hide (show (putI out k x).Perm (l.take (k + 1)) from by have := putI_next (k := k) (out := out) hlt HS.out.1; rw [← HX.out] at this; exact this)
                  have HL := hide (show (putI out k x).length = k + 1 from by rw [putI_len (by omega)]; omega)
                  clear hown hgrow hown3
                  go_wp2
                  go_roundw
                  case rel => exact ⟨k + 1, by omega, by go_num, P3.out, putI out k x, g3, c3, HL.out, slc_eq (by omega), O3.out, ⟨HP.out, HK.out⟩⟩
                  case measure => simp [intOf]; omega
              · have hck : ¬ c' = k := by omega
                have HD := hide (show ∀ t u, (ints (out.drop k))[t]? = some u → w5.cell? ((⟨g, 0 + k, none⟩ : Addr).add t) = some u from rdI_drop ROZ.out (by omega))
                simp only [Nat.zero_add] at HD
                go_wp2_with (at_builtin; refine wpList_append_own _ rfl _ _ 22 rfl w.heap.size 2 i0 (.int .i64 0) 1 8 Try.underlying22 hi hz0 hz1 hz2 rfl (by decide) _ (k + 1) _ rfl O5b.out ⟨g, k, none⟩ (i - k) _ (ints (out.drop k)) rfl (by simp only [ints, List.length_map, List.length_drop]; omega) HD.out oneN (by unfold maxLen; omega) (by omega) HBz.out.size ?_)
                intro v3 wr3 hown hgrow _
                obtain ⟨g3, c3, he3, hown3⟩ := own_pos (by omega) hown
                subst he3
                have P3 := hide (show Below w.heap.size w wr3 from HBz.out.grown hgrow HBz.out.size (fun q hq => (O5b.out.lt (g := q) hq).1))
                have O3 := hide (show Own wr3 w.heap.size 2 1 (some ⟨g3, 0, none⟩) (i + 1) c3 (ints (putI out k x)) from hown3.fit1 (by omega) (by rw [ints_putI]; simp))
                have HP := hide (show (putI out k x).Perm (l.take (i + 1)) from by have := putI_next (k := k) (out := out) hlt HS.out.1; rw [← HX.out] at this; exact this)
                have HL := hide (show (putI out k x).length = i + 1 from by rw [putI_len (by omega)]; omega)
                clear hown hgrow hown3
                go_wp2
                go_roundw
                case rel => exact ⟨i + 1, by omega, by go_num, P3.out, putI out k x, g3, c3, HL.out, slc_eq (by omega), O3.out, ⟨HP.out, HK.out⟩⟩
                case measure => simp [intOf]; omega
        · have hd : decide ((0 : Int) < (k : Int)) = false := by simp; omega
          have HK := hide (show Sd (putI out k x) from putI_sd HS.out.2 (by omega) HT.out (fun h h2 => absurd h2 h0))
          go_wp2_with fail
          go_quiet (fail)
          obtain ⟨wq, hwq⟩ : ∃ wq, wq = (wr.drewN m).drewN nq := ⟨_, rfl⟩
          have HBq := hide (show Below w.heap.size w wq from hwq ▸ below_drewN (below_drewN HB.out _) _)
          have HOq := hide (show Own wq w.heap.size 2 1 (some ⟨g, 0, none⟩) i c' (ints out) from hwq ▸ HO.out)
          clear ROUT
          have ROUT := hide (show Rd wq wq.heap.size 1 (some ⟨g, 0, none⟩) out.length (ints out) from by rw [hol]; exact HOq.out.rd)
          have hclq : wq.cell? ⟨gl, offl + i, none⟩ = some (.int .i64 x) := by rw [hwq]; exact hcl
          have hglq : gl < wq.heap.size := by have := HBq.out.size; omega
          rw [← hwq]
          have htk : (out.take k).length = k := by rw [List.length_take]; omega
          have k1 : (0 : Int) ≤ (k : Int) := by omega
          have k2 : (k : Int) ≤ (i : Int) := by omega
          have k3 : (i : Int) ≤ (c' : Int) := by omega
          have k4 : k ≤ c' := by omega
          clear hwq
          have UU := hide ((Below.refl wq.heap.size wq).drew)
          go_wp2_with fail
          go_region_held3 (fun w' => w'.cell? ⟨gl, offl + i, none⟩ = some (.int .i64 x)) (go_keep)
            (first | (go_at_call 51; (first | (with_reducible (show Calls _ _ _ (World.drew wq) _); have hC := l00Own_n ⟨g, 0, none⟩ c' k (out.take k) wq.drew htk (by omega) ((rdI_take (ROUT.out.below ((UU.out).mono (Nat.le_refl _))) (by omega)).more (UU.out).size); refine hC.mono ?_; clear hC; rintro e wa ⟨Ac, cc, rfl, v, b⟩; have VV := hide (v.base (lo' := wq.heap.size) (by simp)); have UA := hide ((UU.out).trans (b.mono (UU.out).size))) | (with_reducible (show Calls _ _ _ (World.drew (World.alloc _ _)) _); have hC := l00Own_n ⟨g, 0, none⟩ c' k (out.take k) (wq.alloc (.cells #[.int .i64 x] 2)).drew htk (by omega) ((rdI_take (ROUT.out.below ((((Below.refl wq.heap.size wq).alloc (Nat.le_refl _) (.cells #[.int .i64 x] 2)).drew).mono (Nat.le_refl _))) (by omega)).more (((Below.refl wq.heap.size wq).alloc (Nat.le_refl _) (.cells #[.int .i64 x] 2)).drew).size); refine hC.mono ?_; clear hC; rintro e wa ⟨Ac, cc, rfl, v, b⟩; have VN := hide (show ∀ g, (Value.slice Ac 0 0).ownBlock = some g → wq.heap.size < g from fun g hg => by have := (v.lt (g := g) (by rw [← hg]; exact ownBlock_any _ _ _ _ _)).1; simp at this; omega); have VB := hide (show Bk wa wq.heap.size 2 #[.int .i64 x] from ((Bk.new wq 2 #[.int .i64 x]).drew).below b (by simp)); have VV := hide (v.base (lo' := wq.heap.size) (by simp)); have UA := hide ((((Below.refl wq.heap.size wq).alloc (Nat.le_refl _) (.cells #[.int .i64 x] 2)).drew).trans (b.mono (((Below.refl wq.heap.size wq).alloc (Nat.le_refl _) (.cells #[.int .i64 x] 2)).drew).size)))); clear v b; have dd := (UA.out.cell (p := ⟨gl, offl + i, none⟩) hglq).trans hclq) | (refine step_append_lies _ (by rfl) _ _ _ (by rfl) wq.heap.size 2 i0 _ 1 8 Try.underlying22 hi hz0 hz1 hz2 rfl (by omega) (.slice Ac k cc) k (ints (out.take k)) (by rfl) (VV.out.below (Below.alloc (Below.refl wa.heap.size wa) (Nat.le_refl _) (.cells #[.int .i64 x] 2))) ⟨wa.heap.size, 0, none⟩ 1 1 [.int .i64 x] (by rfl) (by rfl) (World.news_of_block (cs := #[.int .i64 x]) (t := 2) (fr := (0, 0)) (heap_alloc_new wa _)) (by simp [Value.oneCell']) (by omega) (by unfold maxLen; omega) (by omega) (by have := UA.out.size; (try simp); omega) (wa.heap.size + 1) (by simp) ?_; intro gg cap w5 hown1 hgrow hat hlt9; have T5 := hide (show Below wq.heap.size wq w5 from (UA.out.alloc UA.out.size (.cells #[.int .i64 x] 2)).grown hgrow (by have := UA.out.size; (try simp); omega) (fun q hq => (VV.out.lt (g := q) hq).1)); have O5 := hide (show Own w5 wq.heap.size 2 1 (some ⟨gg, 0, none⟩) (k + 1) cap (ints (out.take k) ++ [.int .i64 x]) from hown1); clear hown1 hgrow hat hlt9; have dd5 := (T5.out.cell (p := ⟨gl, offl + i, none⟩) hglq).trans hclq) | (refine step_append_lies _ (by rfl) _ _ _ (by rfl) wq.heap.size 2 i0 _ 1 8 Try.underlying22 hi hz0 hz1 hz2 rfl (by omega) (.slice Ac k cc) k (ints (out.take k)) (by rfl) VV.out ⟨wq.heap.size, 0, none⟩ 1 1 [.int .i64 x] (by rfl) (by rfl) (World.news_of_block (cs := #[.int .i64 x]) (t := 2) (fr := (0, 0)) VB.out) (by simp [Value.oneCell']) (by omega) (by unfold maxLen; omega) (by omega) (by have := UA.out.size; (try simp); omega) wa.heap.size rfl ?_; intro gg cap w5 hown1 hgrow hat hlt9; have T5 := hide (show Below wq.heap.size wq w5 from (UA.out).grown hgrow (by have := UA.out.size; (try simp); omega) (fun q hq => (VV.out.lt (g := q) hq).1)); have O5 := hide (show Own w5 wq.heap.size 2 1 (some ⟨gg, 0, none⟩) (k + 1) cap (ints (out.take k) ++ [.int .i64 x]) from hown1); clear hown1 hgrow hat hlt9; have dd5 := (T5.out.cell (p := ⟨gl, offl + i, none⟩) hglq).trans hclq))
          all_goals
            have HBz := hide (show Below w.heap.size w w5 from HBq.out.trans (T5.out.mono HBq.out.size))
            have O5b := hide (O5.out.base (lo' := w.heap.size) HBq.out.size)
            have ROZ := hide (show Rd w5 w5.heap.size 1 (some ⟨g, 0, none⟩) out.length (ints out) from (ROUT.out.below T5.out).more T5.out.size)
            by_cases hkn : k = i
            · subst hkn
              by_cases hcn : c' = k
              · obtain rfl : k = c' := hcn.symm
                go_wp2_with (at_builtin; refine wpList_append_own _ rfl _ _ 22 rfl w.heap.size 2 i0 (.int .i64 0) 1 8 Try.underlying22 hi hz0 hz1 hz2 rfl (by decide) _ (k + 1) _ rfl O5b.out _ 0 _ [] rfl (by simp) (by simp) (by simp) (by unfold maxLen; omega) (by omega) HBz.out.size ?_)
                intro v3 wr3 hown hgrow _
                obtain ⟨g3, c3, he3, hown3⟩ := own_pos (by omega) hown
                subst he3
                have P3 := hide (show Below w.heap.size w wr3 from HBz.out.grown hgrow HBz.out.size (fun q hq => (O5b.out.lt (g := q) hq).1))
                have O3 := hide (show Own wr3 w.heap.size 2 1 (some ⟨g3, 0, none⟩) (k + 1) c3 (ints (putI out k x)) from hown3.fit1 (by omega) (by rw [ints_putI, List.drop_of_length_le (by omega)]; simp [ints]))
                have HP := hide (show (putI out k x).Perm (l.take (k + 1)) from by have := putI_next (k := k) (out := out) hlt HS.out.1; rw [← HX.out] at this; exact this)
                have HL := hide (show (putI out k x).length = k + 1 from by rw [putI_len (by omega)]; omega)
                clear hown hgrow hown3
                go_wp2
                go_roundw
                case rel => exact ⟨k + 1, by omega, by go_num, P3.out, putI out k x, g3, c3, HL.out, slc_eq (by omega), O3.out, ⟨HP.out, HK.out⟩⟩
                case measure => simp [intOf]; omega
              · have hcn2 : ¬ c' = k := hcn
                go_wp2_with (at_builtin; refine wpList_append_own _ rfl _ _ 22 rfl w.heap.size 2 i0 (.int .i64 0) 1 8 Try.underlying22 hi hz0 hz1 hz2 rfl (by decide) _ (k + 1) _ rfl O5b.out _ 0 _ [] rfl (by simp) (by simp) (by simp) (by unfold maxLen; omega) (by omega) HBz.out.size ?_)
                intro v3 wr3 hown hgrow _
                obtain ⟨g3, c3, he3, hown3⟩ := own_pos (by omega) hown
                subst he3
                have P3 := hide (show Below w.heap.size w wr3 from HBz.out.grown hgrow HBz.out.size (fun q hq => (O5b.out.lt (g := q) hq).1))
                have O3 := hide (show Own wr3 w.heap.size 2 1 (some ⟨g3, 0, none⟩) (k + 1) c3 (ints (putI out k x)) from hown3.fit1 (by omega) (by rw [ints_putI, List.drop_of_length_le (by omega)]; simp [ints]))
                have HP := hide (show (putI out k x).Perm (l.take (k + 1)) from by have := putI_next (k := k) (out := out) hlt HS.out.1; rw [← HX.out] at this; exact this)
                have HL := hide (show (putI out k x).length = k + 1 from by rw [putI_len (by omega)]; omega)
                clear hown hgrow hown3
                go_wp2
                go_roundw
                case rel => exact ⟨k + 1, by omega, by go_num, P3.out, putI out k x, g3, c3, HL.out, slc_eq (by omega), O3.out, ⟨HP.out, HK.out⟩⟩
                case measure => simp [intOf]; omega
            · have hck : ¬ c' = k := by omega
              have HD := hide (show ∀ t u, (ints (out.drop k))[t]? = some u → w5.cell? ((⟨g, 0 + k, none⟩ : Addr).add t) = some u from rdI_drop ROZ.out (by omega))
              simp only [Nat.zero_add] at HD
              go_wp2_with (at_builtin; refine wpList_append_own _ rfl _ _ 22 rfl w.heap.size 2 i0 (.int .i64 0) 1 8 Try.underlying22 hi hz0 hz1 hz2 rfl (by decide) _ (k + 1) _ rfl O5b.out ⟨g, k, none⟩ (i - k) _ (ints (out.drop k)) rfl (by simp only [ints, List.length_map, List.length_drop]; omega) HD.out oneN (by unfold maxLen; omega) (by omega) HBz.out.size ?_)
              intro v3 wr3 hown hgrow _
              obtain ⟨g3, c3, he3, hown3⟩ := own_pos (by omega) hown
              subst he3
              have P3 := hide (show Below w.heap.size w wr3 from HBz.out.grown hgrow HBz.out.size (fun q hq => (O5b.out.lt (g := q) hq).1))
              have O3 := hide (show Own wr3 w.heap.size 2 1 (some ⟨g3, 0, none⟩) (i + 1) c3 (ints (putI out k x)) from hown3.fit1 (by omega) (by rw [ints_putI]; simp))
              have HP := hide (show (putI out k x).Perm (l.take (i + 1)) from by have := putI_next (k := k) (out := out) hlt HS.out.1; rw [← HX.out] at this; exact this)
              have HL := hide (show (putI out k x).length = i + 1 from by rw [putI_len (by omega)]; omega)
              clear hown hgrow hown3
              go_wp2
              go_roundw
              case rel => exact ⟨i + 1, by omega, by go_num, P3.out, putI out k x, g3, c3, HL.out, slc_eq (by omega), O3.out, ⟨HP.out, HK.out⟩⟩
              case measure => simp [intOf]; omega
    · obtain rfl : i = l.length := by omega
      have HE := hide (show out = srt l from srt_uniq (by have := HS.out.1; rwa [List.take_length] at this) HS.out.2)
      go_wp2
      go_ret
      exact ⟨_, _, rfl, by rw [← HE.out]; exact HO.out, HB.out⟩
theorem medB_end : True := trivial
end Go.Proofs.Ytdbfebhmldbdbaa
