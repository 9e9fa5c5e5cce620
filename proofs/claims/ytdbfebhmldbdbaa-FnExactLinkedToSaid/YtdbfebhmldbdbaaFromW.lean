/-
  Contracts: l05From, round by round.
-/
import Derived.Test.YtdbfebhmldbdbaaSprW
namespace Go.Proofs.Ytdbfebhmldbdbaa
open Go.RowKit Pl
set_option linter.unusedVariables false
set_option linter.unusedSimpArgs false
theorem ls_next (j : Nat) (l : List ComT) (sh : List Int) (kn : List Bool) (b : Int) : ls (j + 1) l sh kn b = ls j l sh kn b ++ lsA l sh kn b j := by
  unfold ls; rw [List.range_succ, List.flatMap_append]; simp
theorem ls_mono {j n : Nat} (l : List ComT) (sh : List Int) (kn : List Bool) (b : Int) (h : j ≤ n) : (ls j l sh kn b).length ≤ (ls n l sh kn b).length := by
  induction n with
  | zero => obtain rfl : j = 0 := by omega
            exact Nat.le_refl _
  | succ n ih =>
    by_cases e : j = n + 1
    · subst e; exact Nat.le_refl _
    · have := ih (by omega)
      rw [ls_next, List.length_append]; omega
theorem lsA_yes {l : List ComT} {sh : List Int} {kn : List Bool} {b : Int} {j : Nat} (h : kat kn j = true) : lsA l sh kn b j = (dfs j b l).map (fun d => sat sh j - d) := by unfold lsA; rw [if_pos h]
theorem lsA_no {l : List ComT} {sh : List Int} {kn : List Bool} {b : Int} {j : Nat} (h : kat kn j = false) : lsA l sh kn b j = [] := by unfold lsA; rw [if_neg (by rw [h]; simp)]
/-- Who a round has found as far as k. -/
def nxK (n : Nat) (l : List ComT) (sh : List Int) (kn : List Bool) (k : Nat) : List Bool := (List.range n).map fun b : Nat => decide (b < k) && !decide ((rNum n l sh kn b).length = 0)
theorem nxK_len (n : Nat) (l : List ComT) (sh : List Int) (kn : List Bool) (k : Nat) : (nxK n l sh kn k).length = n := by simp [nxK]
theorem nxK_zero (n : Nat) (l : List ComT) (sh : List Int) (kn : List Bool) : nxK n l sh kn 0 = List.replicate n false := by
  apply List.ext_getElem
  · simp [nxK]
  · intro i h1 h2; simp [nxK]
theorem nxK_set (n : Nat) (l : List ComT) (sh : List Int) (kn : List Bool) (k : Nat) (hk : k < n) : nxK n l sh kn (k + 1) = (nxK n l sh kn k).set k (!decide ((rNum n l sh kn k).length = 0)) := by
  apply List.ext_getElem
  · simp [nxK]
  · intro i h1 h2
    simp only [nxK, List.length_map, List.length_range] at h1
    rw [List.getElem_set]
    simp only [nxK, List.getElem_map, List.getElem_range]
    by_cases e : k = i
    · subst e; rw [if_pos rfl]; simp
    · rw [if_neg e]
      by_cases h : i < k
      · simp [h, show i < k + 1 by omega]
      · simp [h, show ¬ i < k + 1 by omega]
theorem nxK_same {n : Nat} {l : List ComT} {sh : List Int} {kn : List Bool} {k : Nat} (hk : k < n) (h : (rNum n l sh kn k).length = 0) : nxK n l sh kn (k + 1) = nxK n l sh kn k := by
  rw [nxK_set _ _ _ _ _ hk, h]
  apply List.ext_getElem
  · simp
  · intro i h1 h2; rw [List.getElem_set]; split
    · subst_vars; simp [nxK]
    · rfl
theorem kat_nxK {n : Nat} {l : List ComT} {sh : List Int} {kn : List Bool} {k j : Nat} (hj : j < n) : kat (nxK n l sh kn k) j = (decide (j < k) && !decide ((rNum n l sh kn j).length = 0)) := by
  show (nxK n l sh kn k).getD _ false = _
  simp [nxK, List.getD_eq_getElem?_getD, hj]
theorem nxK_known {n : Nat} {l : List ComT} {sh : List Int} {kn : List Bool} {k j : Nat} (hj : j < n) (h : kat kn j = true) : kat (nxK n l sh kn k) j = false := by
  rw [kat_nxK hj]; unfold rNum; rw [if_pos h]; simp
theorem nxK_all {n : Nat} {l : List ComT} {sh : List Int} {kn : List Bool} {j : Nat} (hj : j < n) (h : kat kn j = false) : kat (nxK n l sh kn n) j = rKn n l sh kn j := by
  rw [kat_nxK hj]; unfold rKn; rw [h]; simp [hj]
theorem kat_knK_ge {n : Nat} {l : List ComT} {sh : List Int} {kn : List Bool} {k : Nat} (hk : k < n) : kat (knK n l sh kn k) k = kat kn k := by
  show (knK n l sh kn k).getD _ false = _
  simp [knK, List.getD_eq_getElem?_getD, hk]
theorem rNum_un {n : Nat} {l : List ComT} {sh : List Int} {kn : List Bool} {b : Nat} (h : kat kn b = false) : rNum n l sh kn b = ls n l sh kn b := by unfold rNum; rw [if_neg (by rw [h]; simp)]
theorem take_map_next (f : Int → Int) (l : List Int) (i : Nat) (h : i < l.length) : (l.take (i + 1)).map f = (l.take i).map f ++ [f l[i]] := by
  rw [List.take_succ_eq_append_getElem h, List.map_append]; rfl
set_option maxHeartbeats 8000000 in
set_option maxRecDepth 100000 in
theorem from_any (A : Option Addr) (c N : Nat) (l : List ComT) (f : Nat) (w : World) (hc : comsB (N : Int) l = true) (hf : f < N) (hr : Rd w w.heap.size 3 A l.length (l.flatMap ComT.cells)) :
    Calls Try.prog 37 #[.int .i64 (N : Int), .slice A l.length c, .int .i64 (f : Int)] w fun e w' => ∃ A1 c1 A2 c2, e = .returned (.tuple #[.slice A1 N c1, .slice A2 N c2]) ∧ Own w' w.heap.size 2 1 A1 N c1 (ints (rounds N l (N + 1) (List.replicate N 0) ((List.replicate N false).set f true)).1) ∧ Own w' w.heap.size 4 1 A2 N c2 (bls (rounds N l (N + 1) (List.replicate N 0) ((List.replicate N false).set f true)).2) ∧ Below w.heap.size w w' := by
  obtain ⟨n1, n2, hl60, _⟩ := coms_true hc
  have HI := hide (coms_in hc)
  have HOK := hide (comsOk hc)
  have HR := hide hr
  clear hc hr
  have hmk := mk_ints N (by omega)
  have hmb := mk_bools N (by omega)
  have i1 : (0 : Int) ≤ (f : Int) := by omega
  have i2 : (f : Int) < (N : Int) := by omega
  have z0 : (bls (List.replicate N false))[f]? = some (.bool false) := by simp [bls, hf]
  go_enter Try.func37, Try.ntmps37
  go_wp2_with fail
  obtain ⟨wz, hwz⟩ : ∃ wz, wz = (w.alloc (.cells (ints (List.replicate N 0)).toArray 2)).alloc (.cells ((bls (List.replicate N false)).set f (.bool true)).toArray 4) := ⟨_, rfl⟩
  rw [← hwz]
  have HZ : Bk wz w.heap.size 2 (ints (List.replicate N 0)).toArray ∧ Bk wz (w.heap.size + 1) 4 (bls ((List.replicate N false).set f true)).toArray ∧ Below w.heap.size w wz := by
    subst hwz
    have e1 : (w.alloc (.cells (ints (List.replicate N 0)).toArray 2)).heap.size = w.heap.size + 1 := by simp
    refine ⟨(Bk.new w 2 _).alloc _, ?_, (((Below.refl _ _).alloc (Nat.le_refl _) _).alloc (by simp) _)⟩
    have h := Bk.new (w.alloc (.cells (ints (List.replicate N 0)).toArray 2)) 4 ((bls (List.replicate N false)).set f (.bool true)).toArray
    rw [e1] at h
    rw [show bls ((List.replicate N false).set f true) = (bls (List.replicate N false)).set f (.bool true) by simp [bls, List.map_set]]
    exact h
  obtain ⟨rs, hrs⟩ : ∃ rs, rs = w.heap.size := ⟨_, rfl⟩
  obtain ⟨rk, hrk⟩ : ∃ rk, rk = w.heap.size + 1 := ⟨_, rfl⟩
  rw [← hrk]
  rw [← hrk] at HZ
  have HZ := hide HZ
  have hrk1 : w.heap.size ≤ rk := by omega
  have nrs : w.heap.size ≠ rk := by omega
  clear hwz z0 hrs hrk
  go_loopw [10] (fun m wr => ∃ (sh : List Int) (kn : List Bool) (mm : Nat) (mo : Bool), m = .bool mo ∧ sh.length = N ∧ kn.length = N ∧ Bk wr w.heap.size 2 (ints sh).toArray ∧ Bk wr rk 4 (bls kn).toArray ∧ Below w.heap.size w wr ∧ Hid (shB (2000 * ((N : Int) - (unk N kn : Int))) sh) ∧ Hid ((mo = true → rounds N l (mm + 1) sh kn = FIN N l f ∧ unk N kn ≤ mm) ∧ (mo = false → (sh, kn) = FIN N l f))) (fun m wr => mzr m wr rk)
  case atStart =>
    exact ⟨List.replicate N 0, (List.replicate N false).set f true, N, true, rfl, by simp, by simp, HZ.out.1, HZ.out.2.1, HZ.out.2.2, shB_zero _ _ (by have := unk_le N ((List.replicate N false).set f true); omega), ⟨fun _ => ⟨rfl, unk_le _ _⟩, fun h => by cases h⟩⟩
  case round =>
    obtain ⟨sh, kn, mm, mo, rfl, hsl, hkl, hS, hK, hB, hbd, hst⟩ := hrel
    cases mo
    · have hfin := hide (hst.out.2 rfl)
      have HS2 := hide hS
      have HK2 := hide hK
      have HB2 := hide hB
      clear hS hK hB hbd hst
      go_wp2
      go_ret2
      refine ⟨some ⟨w.heap.size, 0, none⟩, N, some ⟨rk, 0, none⟩, N, rfl, ?_, ?_, HB2.out⟩
      · have h := HS2.out.ownI (Nat.le_refl _) (by unfold maxLen; omega)
        have e : sh = (FIN N l f).1 := by rw [← hfin.out]
        rw [hsl] at h
        show Own _ _ _ _ _ _ _ (ints (FIN N l f).1)
        rw [← e]
        exact h
      · have h := HK2.out.own (n := N) (k := 1) hrk1 (by simp [bls, hkl]) (by unfold maxLen; omega)
        have e : kn = (FIN N l f).2 := by rw [← hfin.out]
        show Own _ _ _ _ _ _ _ (bls (FIN N l f).2)
        rw [← e]
        simpa using h
    · obtain ⟨hro, hmm⟩ := hst.out.1 rfl
      have HRO := hide hro
      have HK2 := hide hK
      have HB2 := hide hB
      have HBD := hide hbd.out
      have HSK := hide (And.intro hS.lt hK.lt)
      have HS2 := hide hS
      clear hro hS hK hB hbd hst
      go_wp2_with fail
      obtain ⟨rn, hrn⟩ : ∃ rn, rn = wr.heap.size := ⟨_, rfl⟩
      obtain ⟨w2, hw2⟩ : ∃ w2, w2 = wr.alloc (.cells (bls (List.replicate N false)).toArray 4) := ⟨_, rfl⟩
      rw [← hrn, ← hw2]
      have HN := hide (show Bk w2 rn 4 (bls (List.replicate N false)).toArray from by subst hw2 hrn; exact Bk.new _ _ _)
      have HB3 := hide (show Below rn wr w2 from by subst hw2 hrn; exact (Below.refl _ _).alloc (Nat.le_refl _) _)
      have nsn : w.heap.size ≠ rn := by have := HSK.out.1; omega
      have nkn : rk ≠ rn := by have := HSK.out.2; omega
      have hwn : w.heap.size ≤ rn := by have := HB2.out.size; omega
      have HSR := hide (show w.heap.size < rn ∧ rk < rn by have := HSK.out; omega)
      clear hw2 hrn
      go_loopw [10, 12] (fun m ix wq => ∃ k : Nat, k ≤ N ∧ ix = .int .i64 k ∧ m = .bool (moreK N l sh kn k) ∧ Below w.heap.size w wq ∧ Bk wq w.heap.size 2 (ints (shK N l sh kn k)).toArray ∧ Bk wq rk 4 (bls kn).toArray ∧ Bk wq rn 4 (bls (nxK N l sh kn k)).toArray) (fun _ ix _ => N - (intOf ix).toNat)
      case atStart =>
        exact ⟨0, by omega, rfl, rfl, HB2.out.trans (HB3.out.mono hwn), by rw [shK_zero hsl]; exact HS2.out.below HB3.out HSR.out.1, HK2.out.below HB3.out HSR.out.2, by rw [nxK_zero]; exact HN.out⟩
      case round =>
        obtain ⟨k, hk, rfl, rfl, hb, hS, hK, hN⟩ := hrel
        by_cases hlt : k < N
        · have fb : wr.cell? ⟨rk, k, none⟩ = some (.bool (kat kn k)) := (hK.cell k).trans (bls_at (by omega))
          have j1 : (0 : Int) ≤ (k : Int) := by omega
          have j2 : (k : Int) < (N : Int) := by omega
          have Q := hide (And.intro hb (And.intro hS (And.intro hK hN)))
          clear hb hS hK hN
          cases hkk : kat kn k
          · rw [hkk] at fb
            have HKK := hide hkk
            clear hkk
            go_wp2_with fail
            obtain ⟨wb, rfl⟩ : ∃ wb, wb = wr := ⟨_, rfl⟩
            obtain ⟨lo, hlo⟩ : ∃ lo, lo = wb.heap.size := ⟨_, rfl⟩
            obtain ⟨w3, hw3⟩ : ∃ w3, w3 = wb.alloc (.cells #[] 2) := ⟨_, rfl⟩
            rw [← hw3, ← hlo]
            have HO0 := hide (show Own w3 lo 2 1 (some ⟨lo, 0, none⟩) 0 0 [] from by subst hw3 hlo; exact Own.empty_ wb 2 1 (Nat.le_refl _))
            have HB4 := hide (show Below lo wb w3 from by subst hw3 hlo; exact (Below.refl _ _).alloc (Nat.le_refl _) _)
            have QL := hide (show w.heap.size ≤ lo ∧ w.heap.size < lo ∧ rk < lo ∧ rn < lo from by subst hlo; exact ⟨Q.out.1.size, Q.out.2.1.lt, Q.out.2.2.1.lt, Q.out.2.2.2.lt⟩)
            have HLO := hide (show lo = wb.heap.size from hlo)
            clear hw3 hlo
            go_loopw [13, 14] (fun d jx wa => ∃ j gd cd : Nat, j ≤ N ∧ jx = .int .i64 j ∧ d = .slice (some ⟨gd, 0, none⟩) (ls j l sh kn k).length cd ∧ Own wa lo 2 1 (some ⟨gd, 0, none⟩) (ls j l sh kn k).length cd (ints (ls j l sh kn k)) ∧ Below lo wb wa) (fun _ jx _ => N - (intOf jx).toNat)
            case atStart => exact ⟨0, lo, 0, by omega, rfl, rfl, HO0.out, HB4.out⟩
            case round =>
              obtain ⟨j, gd, cd, hj, rfl, rfl, hO, hbw⟩ := hrel
              by_cases hjl : j < N
              · have p1 : (0 : Int) ≤ (j : Int) := by omega
                have p2 : (j : Int) < (N : Int) := by omega
                have fa : wr.cell? ⟨rk, j, none⟩ = some (.bool (kat kn j)) := (hbw.cell (p := ⟨rk, j, none⟩) QL.out.2.2.1).trans ((Q.out.2.2.1.cell j).trans (bls_at (by omega)))
                have HO := hide hO
                have HBW := hide hbw
                clear hO hbw
                cases hkj : kat kn j
                · rw [hkj] at fa
                  have HE := hide (show ls (j + 1) l sh kn k = ls j l sh kn k by rw [ls_next, lsA_no hkj, List.append_nil])
                  clear hkj
                  go_wp2
                  go_roundw
                  case rel => exact ⟨j + 1, gd, cd, by omega, by go_num, by rw [HE.out], by rw [HE.out]; exact HO.out, HBW.out⟩
                  case measure => simp [intOf]; omega
                · rw [hkj] at fa
                  have fn : wr.cell? ⟨rn, j, none⟩ = some (.bool false) := ((HBW.out.cell (p := ⟨rn, j, none⟩) QL.out.2.2.2).trans ((Q.out.2.2.2.cell j).trans (bls_at (by rw [nxK_len]; exact hjl)))).trans (by rw [nxK_known hjl hkj])
                  have hab : (j : Int) ≠ (k : Int) := fun e => by have := HKK.out; rw [← e] at this; rw [this] at hkj; cases hkj
                  have HE := hide (show ls (j + 1) l sh kn k = ls j l sh kn k ++ (dfs j k l).map (fun d => sat sh j - d) by rw [ls_next, lsA_yes hkj])
                  have HKJ := hide hkj
                  clear hkj
                  go_wp2_with fail
                  refine (l05Diffs_any A c l j k wr hab HOK.out (((HR.out.below Q.out.1).below (HBW.out.mono QL.out.1)).more (Nat.le_trans QL.out.1 (by have := HBW.out.size; have := HLO.out; omega)))).mono ?_
                  rintro e w4 ⟨As, cs, rfl, hs, b4⟩
                  have HS4 := hide hs
                  have HB5 := hide b4
                  clear hs b4
                  obtain ⟨wa, rfl⟩ : ∃ wa, wa = wr := ⟨_, rfl⟩
                  have hloa : lo ≤ wa.heap.size := by have := HBW.out.size; have := HLO.out; omega
                  have HAP := hide (Own.apart HO.out HS4.out (Nat.le_refl _))
                  have HO4 := hide (HO.out.below HB5.out)
                  have HBW4 := hide (HBW.out.trans (HB5.out.mono hloa))
                  have hdl : (dfs j k l).length ≤ 60 := Nat.le_trans (dfs_len _ _ _) hl60
                  have hll : (ls j l sh kn k).length ≤ 60 := Nat.le_trans (ls_mono _ _ _ _ hj) (Nat.le_trans (ls_len sh kn (k : Int) (by simpa using HI.out)) hl60)
                  clear fa fn hab
                  go_wp2_with fail
                  go_loopw [13, 16] (fun d ix wi => ∃ i ge ce : Nat, i ≤ (dfs j k l).length ∧ ix = .int .i64 i ∧ d = .slice (some ⟨ge, 0, none⟩) (ls j l sh kn k ++ ((dfs j k l).take i).map (fun d => sat sh j - d)).length ce ∧ Own wi lo 2 1 (some ⟨ge, 0, none⟩) (ls j l sh kn k ++ ((dfs j k l).take i).map (fun d => sat sh j - d)).length ce (ints (ls j l sh kn k ++ ((dfs j k l).take i).map (fun d => sat sh j - d))) ∧ Below lo wb wi ∧ Own wi wa.heap.size 2 1 As (dfs j k l).length cs (ints (dfs j k l)) ∧ Apart (some ⟨ge, 0, none⟩) As) (fun _ ix _ => (dfs j k l).length - (intOf ix).toNat)
                  case atStart => exact ⟨0, gd, cd, by omega, rfl, by simp, by simpa using HO4.out, HBW4.out, HS4.out, HAP.out⟩
                  case round =>
                    obtain ⟨i, ge, ce, hi, rfl, rfl, hO, hbw, hs, hap⟩ := hrel
                    by_cases hil : i < (dfs j k l).length
                    · obtain ⟨gx, ox, hA, hgx, hcx⟩ := hs.rd.at_ hil
                      subst hA
                      obtain ⟨y, hy⟩ : ∃ y, y = (dfs j k l)[i] := ⟨_, rfl⟩
                      have fx : wr.cell? ⟨gx, ox + i, none⟩ = some (.int .i64 y) := hcx i _ (by simp [ints, hil, hy])
                      have fs : wr.cell? ⟨w.heap.size, j, none⟩ = some (.int .i64 (sat sh j)) := ((hbw.cell (p := ⟨w.heap.size, j, none⟩) QL.out.2.1).trans ((Q.out.2.1.cell j).trans (ints_at (by rw [shK_len]; exact hjl)))).trans (by rw [sat_shK hkl HKJ.out])
                      have hdb := dfs_bd (a := (j : Int)) (b := (k : Int)) (l := l) (fun i hi => (HOK.out.2 i hi).2) y (by rw [hy]; exact List.getElem_mem _)
                      have hsb := HBD.out j
                      have hul := unk_le N kn
                      have hwr : IntKind.i64.wrap (sat sh j - y) = sat sh j - y := by rw [IntKind.wrap_i64]; omega
                      have q1 : (0 : Int) ≤ (i : Int) := by omega
                      have q2 : (i : Int) < ((dfs j k l).length : Int) := by omega
                      have HLN := hide (show ls j l sh kn k ++ ((dfs j k l).take (i + 1)).map (fun d => sat sh j - d) = (ls j l sh kn k ++ ((dfs j k l).take i).map (fun d => sat sh j - d)) ++ [sat sh j - y] by rw [take_map_next _ _ _ hil, hy, List.append_assoc])
                      obtain ⟨L, hL⟩ : ∃ L, L = ls j l sh kn k ++ ((dfs j k l).take i).map (fun d => sat sh j - d) := ⟨_, rfl⟩
                      have hLl : L.length ≤ 120 := by rw [hL]; simp; omega
                      rw [← hL] at hO HLN ⊢
                      have HBX := hide hbw
                      have HSX := hide hs
                      have HPX := hide hap
                      have HOX := hide hO
                      have hlor : lo ≤ wr.heap.size := by have := HLO.out; have := hbw.size; omega
                      have n1 := World.new_ne wr ⟨gx, ox + i, none⟩ fx
                      have n2 := World.new_ne wr ⟨w.heap.size, j, none⟩ fs
                      obtain ⟨i0, hif, hz0, hz1, hz2⟩ := info_parts info_i64
                      clear hy hL hbw hs hap hdb hsb hcx hO
                      go_wp2_with fail
                      go_region_law (refine step_append_lies _ (by rfl) _ _ _ (by rfl) lo 2 i0 _ 1 8 Try.underlying22 hif hz0 hz1 hz2 rfl (by omega) (.slice (some ⟨ge, 0, none⟩) L.length ce) L.length (ints L) (by rfl) ((HOX.out.alloc _).drew) ⟨wr.heap.size, 0, none⟩ 1 1 [.int .i64 (sat sh j - y)] (by rfl) (by rfl) (World.news_of_block (cs := #[.int .i64 (sat sh j - y)]) (t := 2) (fr := (0, 0)) (heap_alloc_new wr _)) (by simp [Value.oneCell']) (by omega) (by unfold maxLen; omega) (by omega) (by simp; omega) (wr.heap.size + 1) (by simp) ?_; intro gg cap w5 hown1 hgrow hat hlt9; have X5 := hide (And.intro hown1 (And.intro hgrow (And.intro hat hlt9))); clear hown1 hgrow hat hlt9; skip)
                      all_goals
                        go_wp2
                        go_roundw
                        case rel =>
                          obtain ⟨hown1, hgrow, hat, hlt9⟩ := X5.out
                          have hoL : Own w5 lo 2 1 (some ⟨gg, 0, none⟩) (L.length + 1) cap (ints L ++ [.int .i64 (sat sh j - y)]) := hown1
                          have hb5 : Below lo wb w5 := HBX.out.trans ((((Below.refl lo wr).alloc hlor _).drew).grown hgrow (by simp; omega) (fun g hg => ((HOX.out.lt hg).1)))
                          have hs5 := (show Own _ _ _ _ _ _ _ _ from (HSX.out.alloc _).drew).far (A' := some ⟨ge, 0, none⟩) hgrow (fun g g' h1 h2 e => HPX.out g' g h2 h1 e.symm)
                          refine ⟨i + 1, gg, cap, by omega, by go_num, ?_, ?_, hb5, hs5, ?_⟩
                          · rw [HLN.out]; simp
                          · rw [HLN.out]; exact hoL.fit (by simp) (by rw [ints_app]; rfl)
                          · intro g g' hg hg'
                            rcases hat with h | h
                            · exact HPX.out g g' (by rw [← hg]; exact h) hg'
                            · have h2 := (HSX.out.lt (g := g') (by rw [← hg']; exact ownBlock_any _ _ _ _ _)).2
                              have h3 : g = gg := by
                                have : some gg = some g := hg
                                injection this with this
                                exact this.symm
                              omega
                        case measure => simp [intOf]; omega
                    · have ei : i = (dfs j k l).length := by omega
                      rw [ei, List.take_length] at hO ⊢
                      rw [← HE.out] at hO ⊢
                      have HOX := hide hO
                      have HBX := hide hbw
                      clear hO hbw hs hap
                      go_wp2
                      go_roundw
                      case rel => exact ⟨j + 1, ge, ce, by omega, by go_num, rfl, HOX.out, HBX.out⟩
                      case measure => simp [intOf]; omega
              · have ej : j = N := by omega
                rw [ej] at hO ⊢
                have hr1 := rNum_un (n := N) (l := l) (sh := sh) HKK.out
                have hll : (ls N l sh kn k).length ≤ 60 := Nat.le_trans (ls_len sh kn (k : Int) (by simpa using HI.out)) hl60
                have HO := hide hO
                have HBW := hide (show Below w.heap.size w wr from Q.out.1.trans (hbw.mono QL.out.1))
                have HSW := hide (Q.out.2.1.below hbw QL.out.2.1)
                have HKW := hide (Q.out.2.2.1.below hbw QL.out.2.2.1)
                have HNW := hide (Q.out.2.2.2.below hbw QL.out.2.2.2)
                clear hO hbw
                by_cases hz : (ls N l sh kn k).length = 0
                · have hz2 : ¬ (0 : Int) < ((ls N l sh kn k).length : Int) := by omega
                  have hr0 : (rNum N l sh kn k).length = 0 := by rw [hr1]; exact hz
                  have P := hide (show moreK N l sh kn (k + 1) = moreK N l sh kn k ∧ shK N l sh kn (k + 1) = shK N l sh kn k ∧ nxK N l sh kn (k + 1) = nxK N l sh kn k from ⟨by rw [moreK_next, hr0]; simp, shK_same hlt (rSh_none HKK.out hr0).1, nxK_same hlt hr0⟩)
                  clear hr0 hr1 hz
                  go_wp2
                  go_roundw
                  case rel =>
                    obtain ⟨p1, p2, p3⟩ := P.out
                    exact ⟨k + 1, by omega, by go_num, by rw [p1], HBW.out, by rw [p2]; exact HSW.out, HKW.out, by rw [p3]; exact HNW.out⟩
                  case measure => simp [intOf]; omega
                · have hz2 : (0 : Int) < ((ls N l sh kn k).length : Int) := by omega
                  have HR1 := hide hr1
                  have HZ1 := hide hz
                  have hz3 : 0 < (ls N l sh kn k).length := by omega
                  clear hr1 hz
                  go_wp2_with fail
                  refine (l02Median_any _ _ (ls N l sh kn k) wr hz3 (by omega) (fun x hx => by have := ls_bd (by simpa using HI.out) HBD.out x hx; have := unk_le N kn; omega) HO.out.rd).mono ?_
                  rintro e w4 ⟨rfl, b4⟩
                  have HS8 := HSW.out.below b4 HSW.out.lt
                  have HN8 := HNW.out.below b4 HNW.out.lt
                  have x1 := (HS8.cell k).trans (ints_at (by rw [shK_len]; exact hlt))
                  have x2 := HS8.frozen k
                  have x3 := (HN8.cell k).trans (bls_at (by rw [nxK_len]; exact hlt))
                  have x4 := HN8.frozen k
                  have HS9 := hide HS8
                  have HN9 := hide HN8
                  have HK9 := hide (HKW.out.below b4 HKW.out.lt)
                  have HB9 := hide (HBW.out.trans (b4.mono HBW.out.size))
                  clear HS8 HN8 b4
                  go_wp2
                  go_roundw
                  case rel =>
                    have hr0 : ¬ (rNum N l sh kn k).length = 0 := by rw [HR1.out]; exact HZ1.out
                    have hS8 := rSh_some (sh := sh) hr0
                    refine ⟨k + 1, by omega, by go_num, ?_, ?_, ?_, ?_, ?_⟩
                    · rw [moreK_next]; simp [hr0]
                    · exact (HB9.out.setCell (Nat.le_refl _) _).setCell hwn _
                    · have h := (HS9.out.set_ k (.int .i64 (med (ls N l sh kn k)))).far nsn (.bool true) (p := ⟨rn, k, none⟩)
                      rw [ints_set, ← HR1.out, ← hS8.1, ← shK_set _ _ _ _ _ hlt] at h
                      rw [← HR1.out, ← hS8.1]
                      exact h
                    · exact (HK9.out.far (p := ⟨w.heap.size, k, none⟩) (fun e => nrs e.symm) _).far nkn _
                    · have h := (HN9.out.far (p := ⟨w.heap.size, k, none⟩) (fun e => nsn e.symm) (.int .i64 (med (ls N l sh kn k)))).set_ k (.bool true)
                      rw [bls_set, show (true : Bool) = !decide ((rNum N l sh kn k).length = 0) from by simp [hr0], ← nxK_set _ _ _ _ _ hlt] at h
                      rw [show (Value.bool true) = .bool (!decide ((rNum N l sh kn k).length = 0)) by simp [hr0]]
                      exact h
                  case measure => simp [intOf]; omega
          · rw [hkk] at fb
            have hrk2 := rSh_known (n := N) (l := l) (sh := sh) hkk
            have hr0 : (rNum N l sh kn k).length = 0 := by unfold rNum; rw [if_pos hkk]; rfl
            have P := hide (show moreK N l sh kn (k + 1) = moreK N l sh kn k ∧ shK N l sh kn (k + 1) = shK N l sh kn k ∧ nxK N l sh kn (k + 1) = nxK N l sh kn k from ⟨by rw [moreK_next, hr0]; simp, shK_same hlt hrk2.1, nxK_same hlt hr0⟩)
            clear hkk hrk2 hr0
            go_wp2
            go_roundw
            case rel =>
              obtain ⟨p1, p2, p3⟩ := P.out
              obtain ⟨hb, hS, hK, hN⟩ := Q.out
              exact ⟨k + 1, by omega, by go_num, by rw [p1], hb, by rw [p2]; exact hS, hK, by rw [p3]; exact hN⟩
            case measure => simp [intOf]; omega
        · have ek : k = N := by omega
          rw [ek, shK_all] at hS
          rw [ek] at hN
          have hmo : moreK N l sh kn k = moreR N l sh kn := by rw [ek, moreK_all]
          have HS5 := hide hS
          have HK5 := hide hK
          have HB5 := hide hb
          have HN5 := hide hN
          clear hS hK hb hN
          go_wp2_with fail
          go_loopw [17] (fun jx wt => ∃ j : Nat, j ≤ N ∧ jx = .int .i64 j ∧ Below w.heap.size w wt ∧ Bk wt w.heap.size 2 (ints (shR N l sh kn)).toArray ∧ Bk wt rk 4 (bls (knK N l sh kn j)).toArray ∧ Bk wt rn 4 (bls (nxK N l sh kn N)).toArray) (fun jx _ => N - (intOf jx).toNat)
          case atStart => exact ⟨0, by omega, rfl, HB5.out, HS5.out, by rw [knK_zero hkl]; exact HK5.out, HN5.out⟩
          case round =>
            obtain ⟨j, hj, rfl, hb, hS, hK, hN⟩ := hrel
            by_cases hjl : j < N
            · have fk : wr.cell? ⟨rk, j, none⟩ = some (.bool (kat kn j)) := ((hK.cell j).trans (bls_at (by rw [knK_len]; exact hjl))).trans (by rw [kat_knK_ge hjl])
              have fq := hK.frozen j
              have p1 : (0 : Int) ≤ (j : Int) := by omega
              have p2 : (j : Int) < (N : Int) := by omega
              have HS6 := hide hS
              have HK6 := hide hK
              have HB6 := hide hb
              have HN6 := hide hN
              have HKB := hide (knK_set N l sh kn j hjl)
              cases hkj : kat kn j
              · have fn : wr.cell? ⟨rn, j, none⟩ = some (.bool (rKn N l sh kn j)) := ((hN.cell j).trans (bls_at (by rw [nxK_len]; exact hjl))).trans (by rw [nxK_all hjl hkj])
                rw [hkj] at fk
                clear hS hK hb hN hkj
                go_wp2
                go_roundw
                case rel =>
                  have h := HK6.out.set_ j (.bool (rKn N l sh kn j))
                  rw [bls_set, ← HKB.out] at h
                  exact ⟨j + 1, by omega, by go_num, HB6.out.setCell hrk1 _, HS6.out.far nrs _, h, HN6.out.far (fun e => nkn e.symm) _⟩
                case measure => simp [intOf]; omega
              · have hrk2 := (rSh_known (n := N) (l := l) (sh := sh) hkj).2
                rw [hkj] at fk
                have HRK := hide hrk2
                clear hS hK hb hN hkj hrk2
                go_wp2
                go_roundw
                case rel =>
                  have h := HK6.out.set_ j (.bool true)
                  rw [bls_set, ← HRK.out, ← HKB.out] at h
                  rw [HRK.out] at h
                  exact ⟨j + 1, by omega, by go_num, HB6.out.setCell hrk1 _, HS6.out.far nrs _, h, HN6.out.far (fun e => nkn e.symm) _⟩
                case measure => simp [intOf]; omega
            · have ej : j = N := by omega
              rw [ej, knK_all] at hK
              have HS6 := hide hS
              have HK6 := hide hK
              have HB6 := hide hb
              clear hS hK hb hN
              go_wp2
              go_roundw
              case rel => exact ⟨shR N l sh kn, knR N l sh kn, mm - 1, moreR N l sh kn, by rw [hmo], by simp [shR], by simp [knR], HS6.out, HK6.out, HB6.out, round_bd HI.out HBD.out, round_st HRO.out hmm⟩
              case measure =>
                rw [hmo, mzr_at HK6.out, mzr_at HK2.out, fal_unk hkl, fal_unk (N := N) (by simp [knR])]
                cases hm : moreR N l sh kn
                · simp [isT]; omega
                · have := unk_less hm
                  simp [isT]
                  omega
theorem fromW_end : True := trivial
end Go.Proofs.Ytdbfebhmldbdbaa
