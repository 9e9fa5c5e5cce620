/-
  Contracts: spread, round by round.
-/
import Derived.Test.YtdbfebhmldbdbaaFrom
namespace Go.Proofs.Ytdbfebhmldbdbaa
open Go.RowKit Pl
set_option linter.unusedVariables false
set_option linter.unusedSimpArgs false
theorem bls_set (l : List Bool) (f : Nat) (v : Bool) : (bls l).toArray.setIfInBounds f (.bool v) = (bls (l.set f v)).toArray := by simp [bls, List.map_set]
theorem ints_set (l : List Int) (f : Nat) (v : Int) : (ints l).toArray.setIfInBounds f (.int .i64 v) = (ints (l.set f v)).toArray := by simp [ints, List.map_set]
theorem shB_zero (N : Nat) (B : Int) (h : 0 ≤ B) : shB B (List.replicate N 0) := fun a => by
  have : sat (List.replicate N 0) a = 0 := by unfold sat; simp [List.getD_eq_getElem?_getD, List.getElem?_replicate]; split <;> rfl
  rw [this]; omega
def FIN (N : Nat) (l : List ComT) (f : Nat) : List Int × List Bool := rounds N l (N + 1) (List.replicate N 0) ((List.replicate N false).set f true)
theorem shK_same {N : Nat} {l : List ComT} {sh : List Int} {kn : List Bool} {k : Nat} (hk : k < N) (h : rSh N l sh kn k = sat sh k) : shK N l sh kn (k + 1) = shK N l sh kn k := by
  rw [shK_set _ _ _ _ _ hk, h]
  apply List.ext_getElem
  · simp
  · intro i h1 h2; rw [List.getElem_set]; split
    · subst_vars; simp [shK]
    · rfl
theorem knK_same {N : Nat} {l : List ComT} {sh : List Int} {kn : List Bool} {k : Nat} (hk : k < N) (h : rKn N l sh kn k = kat kn k) : knK N l sh kn (k + 1) = knK N l sh kn k := by
  rw [knK_set _ _ _ _ _ hk, h]
  apply List.ext_getElem
  · simp
  · intro i h1 h2; rw [List.getElem_set]; split
    · subst_vars; simp [knK]
    · rfl
theorem kat_lt {kn : List Bool} {a : Int} (h : kat kn a = true) : a.toNat < kn.length := by
  rcases Nat.lt_or_ge a.toNat kn.length with h0 | h0
  · exact h0
  · unfold kat at h; rw [List.getD_eq_getElem?_getD, List.getElem?_eq_none h0] at h; cases h
theorem sat_shK {N : Nat} {l : List ComT} {sh : List Int} {kn : List Bool} {k : Nat} {a : Int} (hl : kn.length = N) (h : kat kn a = true) : sat (shK N l sh kn k) a = sat sh a := by
  have hlt := kat_lt h
  have e : sat (shK N l sh kn k) a = if a.toNat < k then rSh N l sh kn a.toNat else sat sh (a.toNat : Nat) := by
    show (shK N l sh kn k).getD a.toNat 0 = _
    simp [shK, List.getD_eq_getElem?_getD, show a.toNat < N by omega]
  have e2 : sat sh ((a.toNat : Nat) : Int) = sat sh a := by unfold sat; rw [Int.toNat_natCast]
  rw [e, e2]
  split
  · rw [(rSh_known (n := N) (l := l) (sh := sh) (b := a.toNat) (by unfold kat at h ⊢; rw [Int.toNat_natCast]; exact h)).1, e2]
  · rfl
theorem li_shK {N : Nat} {l : List ComT} {sh : List Int} {kn : List Bool} {k : Nat} (hl : kn.length = N) (m : List ComT) (b : Int) : li m (shK N l sh kn k) kn b = li m sh kn b := by
  unfold li
  congr 1
  funext x
  unfold liX
  by_cases h1 : kat kn x.a = true
  · rw [sat_shK hl h1]
    by_cases h2 : kat kn x.b = true
    · rw [sat_shK hl h2]
    · rw [if_neg h2, if_neg h2]
  · rw [if_neg h1, if_neg h1]
    by_cases h2 : kat kn x.b = true
    · rw [sat_shK hl h2]
    · rw [if_neg h2, if_neg h2]
theorem shK_bd {N : Nat} {l : List ComT} {sh : List Int} {kn : List Bool} {k : Nat} {B : Int} (hl : InR N l) (hs : shB B sh) (hB : 0 ≤ B) : shB (B + 2000) (shK N l sh kn k) := by
  intro a
  by_cases ha : a < N
  · have e : sat (shK N l sh kn k) a = if a < k then rSh N l sh kn a else sat sh a := by
      show (shK N l sh kn k).getD _ 0 = _
      simp [shK, List.getD_eq_getElem?_getD, ha]
    rw [e]
    split
    · exact rSh_bd hl hs hB
    · have := hs a; omega
  · have e : sat (shK N l sh kn k) a = 0 := by
      show (shK N l sh kn k).getD _ 0 = _
      simp [shK, List.getD_eq_getElem?_getD]; rw [List.getElem?_eq_none (by simp; omega)]; rfl
    rw [e]; omega
theorem shK_len (N : Nat) (l : List ComT) (sh : List Int) (kn : List Bool) (k : Nat) : (shK N l sh kn k).length = N := by simp [shK]
theorem knK_len (N : Nat) (l : List ComT) (sh : List Int) (kn : List Bool) (k : Nat) : (knK N l sh kn k).length = N := by simp [knK]
theorem ints_at {l : List Int} {a : Nat} (h : a < l.length) : (ints l).toArray[a]? = some (.int .i64 (sat l a)) := by
  simp [ints, sat, List.getD_eq_getElem?_getD, h]
theorem bls_at {l : List Bool} {a : Nat} (h : a < l.length) : (bls l).toArray[a]? = some (.bool (kat l a)) := by
  simp [bls, kat, List.getD_eq_getElem?_getD, h]
theorem bls_at' {l : List Bool} {a : Nat} (h : a < l.length) : (bls l)[a]? = some (.bool (kat l a)) := by
  simp [bls, kat, List.getD_eq_getElem?_getD, h]
theorem li_bd {N : Nat} {l : List ComT} {sh : List Int} {kn : List Bool} {b : Int} {B : Int} (hl : InR N l) (hs : shB B sh) : ∀ x ∈ li l sh kn b, -(B + 2000) ≤ x ∧ x ≤ B + 2000 := fun x hx => ls_bd hl hs x ((li_ls sh kn b hl).subset hx)
theorem grownBy_setC (W : World) (p : Addr) (v : Value) : W.grownBy (W.setCell p v) (some p.block) :=
  ⟨rfl, rfl, rfl, by simp, fun j _ hne => Below.heap_setCell W p v j (fun e => hne (by rw [e]))⟩
theorem Own.setC {w : World} {lo k n c : Nat} {E : TypeId} {A : Option Addr} {xs : List Value} (h : Own w lo E k A n c xs) {p : Addr} (hp : p.block < lo) (u : Value) : Own (w.setCell p u) lo E k A n c xs := by
  refine World.ownsRow.kept h (grownBy_setC w p u) ?_
  right
  intro e
  have := (Own.lt h e).1
  omega
/-- The rounds that may still come: told by the flag and known's cells. -/
def isF : Value → Bool | .bool false => true | _ => false
def isT : Value → Bool | .bool true => true | _ => false
def mzr (m : Value) (w : World) (rk : Nat) : Nat := if isT m = true then (match w.heap[rk]? with | some (.cells cs _ _) => 1 + (cs.toList.filter isF).length | _ => 0) else 0
theorem Bk.ne {w : World} {g g' : Nat} {t t' : TypeId} {cs cs' : Array Value} (h : Bk w g t cs) (h' : Bk w g' t' cs') (ht : t ≠ t') : g ≠ g' := fun e => by
  subst e
  have := h.symm.trans h'
  injection this with this
  injection this with _ e2 _
  exact ht e2
theorem Boxed.ne {w : World} {g g' : Nat} {t t' : TypeId} {v : Value} {cs' : Array Value} (h : Boxed w g t v) (h' : Bk w g' t' cs') (ht : t ≠ t') : g ≠ g' := Bk.ne (show Bk w g t #[v] from h) h' ht
theorem three (w : World) (o1 o2 o3 : Obj) : (((w.alloc o1).alloc o2).alloc o3).heap[w.heap.size]? = some o1 ∧ (((w.alloc o1).alloc o2).alloc o3).heap[w.heap.size + 1]? = some o2 ∧ (((w.alloc o1).alloc o2).alloc o3).heap[w.heap.size + 1 + 1]? = some o3 := by
  have e1 : (w.alloc o1).heap.size = w.heap.size + 1 := by simp
  have e2 : ((w.alloc o1).alloc o2).heap.size = w.heap.size + 1 + 1 := by simp
  refine ⟨?_, ?_, ?_⟩
  · rw [Below.heap_alloc _ _ _ (by omega), Below.heap_alloc _ _ _ (by omega)]; exact World.alloc_heap_new _ _
  · rw [Below.heap_alloc _ _ _ (by omega), ← e1]; exact World.alloc_heap_new _ _
  · rw [← e2]; exact World.alloc_heap_new _ _
theorem mzr_at {m : Value} {w : World} {rk : Nat} {cs : Array Value} {t : TypeId} (h : Bk w rk t cs) : mzr m w rk = if isT m = true then 1 + (cs.toList.filter isF).length else 0 := by
  unfold mzr
  rw [show w.heap[rk]? = _ from h]
theorem fal_unk {N : Nat} {kn : List Bool} (h : kn.length = N) : (((bls kn).toArray.toList).filter isF).length = unk N kn := by
  have e : kn = (List.range N).map (fun b : Nat => kat kn b) := by
    apply List.ext_getElem
    · simp [h]
    · intro i h1 h2; simp [kat, List.getD_eq_getElem?_getD, h1]
  have h2 : ∀ xs : List Nat, ((bls (xs.map fun b : Nat => kat kn b)).filter isF).length = (xs.filter fun b : Nat => !kat kn b).length := by
    intro xs
    induction xs with
    | nil => rfl
    | cons x xs ih =>
      simp only [bls, List.map_cons, List.filter_cons] at ih ⊢
      cases hk : kat kn x
      · simp only [isF, Bool.not_false, if_true, List.length_cons, ih]
      · simp only [isF, Bool.not_true, Bool.false_eq_true, if_false, ih]
  have h3 := h2 (List.range N)
  rw [← e] at h3
  exact h3
theorem round_st {N mm : Nat} {l : List ComT} {sh : List Int} {kn : List Bool} {F : List Int × List Bool} (h : rounds N l (mm + 1) sh kn = F) (hm : unk N kn ≤ mm) : Hid ((moreR N l sh kn = true → rounds N l (mm - 1 + 1) (shR N l sh kn) (knR N l sh kn) = F ∧ unk N (knR N l sh kn) ≤ mm - 1) ∧ (moreR N l sh kn = false → (shR N l sh kn, knR N l sh kn) = F)) := by
  refine ⟨fun h1 => ?_, fun h1 => ?_⟩
  · have hl := unk_less h1
    rw [rounds, if_pos h1] at h
    have e : mm - 1 + 1 = mm := by omega
    rw [e]
    exact ⟨h, by omega⟩
  · rw [rounds, if_neg (by rw [h1]; simp)] at h
    exact h
theorem unk_R (N : Nat) (l : List ComT) (sh : List Int) (kn : List Bool) (h : moreR N l sh kn = false) : shR N l sh kn = (List.range N).map (fun b : Nat => sat sh b) := by
  unfold shR
  refine List.map_congr_left (fun b hb => ?_)
  unfold rSh
  have h2 : ¬ (!decide ((rNum N l sh kn b).length = 0)) = true := fun h3 => by
    have : moreR N l sh kn = true := List.any_eq_true.2 ⟨b, hb, h3⟩
    rw [h] at this; cases this
  rw [if_pos (by simpa using h2)]
theorem round_bd {N : Nat} {l : List ComT} {sh : List Int} {kn : List Bool} (hl : InR (N : Int).toNat l) (hb : shB (2000 * ((N : Int) - (unk N kn : Int))) sh) : Hid (shB (2000 * ((N : Int) - (unk N (knR N l sh kn) : Int))) (shR N l sh kn)) := by
  have hu := unk_le N kn
  cases h : moreR N l sh kn
  · have hle : unk N (knR N l sh kn) ≤ unk N kn := by
      have e : unk N (knR N l sh kn) = ((List.range N).filter fun b : Nat => !rKn N l sh kn b).length := congrArg List.length (filter_cg (fun b hb => by rw [kat_R (List.mem_range.1 hb)]))
      rw [e]
      refine cnt_le _ _ (fun b hb => ?_) _
      unfold rKn at hb
      cases hk : kat kn b
      · rfl
      · rw [hk] at hb; simp at hb
    intro a
    rw [unk_R N l sh kn h]
    by_cases ha : a < N
    · have e : sat ((List.range N).map fun b : Nat => sat sh b) a = sat sh a := by
        have := ha
        show ((List.range N).map fun b : Nat => sat sh b).getD _ _ = _
        simp [List.getD_eq_getElem?_getD, ha]
      rw [e]
      have := hb a
      omega
    · have e : sat ((List.range N).map fun b : Nat => sat sh b) a = 0 := by
        show ((List.range N).map fun b : Nat => sat sh b).getD _ _ = _
        rw [List.getD_eq_getElem?_getD, List.getElem?_eq_none (by simp; omega)]; rfl
      rw [e]; omega
  · have hless := unk_less h
    have h1 := shB_R (n := N) (kn := kn) (by simpa using hl) hb (by omega)
    intro a
    have := h1 a
    omega
set_option maxHeartbeats 4000000 in
set_option maxRecDepth 100000 in
theorem spread_any (A : Option Addr) (c N : Nat) (l : List ComT) (f : Nat) (w : World) (hc : comsB (N : Int) l = true) (hf : f < N) (hr : Rd w w.heap.size 3 A l.length (l.flatMap ComT.cells)) :
    Calls Try.prog 38 #[.int .i64 (N : Int), .slice A l.length c, .int .i64 (f : Int)] w fun e w' => ∃ A1 c1 A2 c2, e = .returned (.tuple #[.slice A1 N c1, .slice A2 N c2]) ∧ Own w' w.heap.size 2 1 A1 N c1 (ints (rounds N l (N + 1) (List.replicate N 0) ((List.replicate N false).set f true)).1) ∧ Own w' w.heap.size 4 1 A2 N c2 (bls (rounds N l (N + 1) (List.replicate N 0) ((List.replicate N false).set f true)).2) ∧ Below w.heap.size w w' := by
  obtain ⟨n1, n2, hl60, _⟩ := coms_true hc
  have HI := hide (coms_in hc)
  have HR := hide hr
  clear hc hr
  have hmk := mk_ints N (by omega)
  have hmb := mk_bools N (by omega)
  go_enter Try.func38, Try.ntmps38
  go_upto_region 1 with fail
  go_cut [8, 9] (fun sb sk wx => ∃ gs rs rk : Nat, w.heap.size ≤ gs ∧ w.heap.size ≤ rs ∧ w.heap.size ≤ rk ∧ sb = .pointer (some ⟨gs, 0, none⟩) ∧ sk = .slice (some ⟨rk, 0, none⟩) N N ∧ Boxed wx gs 22 (.slice (some ⟨rs, 0, none⟩) N N) ∧ Bk wx rs 2 (ints (List.replicate N 0)).toArray ∧ Bk wx rk 4 (bls (List.replicate N false)).toArray ∧ Below w.heap.size w wx)
  case first =>
    go_region
    all_goals
      go_wp2_with fail
      go_meet
      refine ⟨_, _, _, ?_, ?_, ?_, rfl, rfl, (by first | exact (three _ _ _ _).1 | exact (three _ _ _ _).2.1 | exact (three _ _ _ _).2.2), (by first | exact (three _ _ _ _).1 | exact (three _ _ _ _).2.1 | exact (three _ _ _ _).2.2), (by first | exact (three _ _ _ _).1 | exact (three _ _ _ _).2.1 | exact (three _ _ _ _).2.2), ((((Below.refl _ _).alloc (Nat.le_refl _) _).alloc (by simp) _).alloc (by simp; omega) _).drew⟩ <;> omega
  case rest =>
    obtain ⟨gs, rs, rk, hgs, hrs, hrk, rfl, rfl, hv, hS, hK, hB⟩ := hcut
    obtain ⟨o0, e0⟩ := hK.some_ (i := f) (by simp [bls]; omega)
    have q0 := hK.frozen f
    have i1 : (0 : Int) ≤ (f : Int) := by omega
    have i2 : (f : Int) < (N : Int) := by omega
    have nks := hide (Boxed.ne hv hK (by decide))
    have nrs := hide (Bk.ne hS hK (by decide))
    have HV := hide hv
    have HS := hide hS
    have HK := hide hK
    have HB := hide hB
    clear hv hS hK hB
    go_wp2_with fail
    go_loopw [10] (fun m wr => ∃ (sh : List Int) (kn : List Bool) (mm : Nat) (mo : Bool), m = .bool mo ∧ sh.length = N ∧ kn.length = N ∧ Boxed wr gs 22 (.slice (some ⟨rs, 0, none⟩) N N) ∧ Bk wr rs 2 (ints sh).toArray ∧ Bk wr rk 4 (bls kn).toArray ∧ Below w.heap.size w wr ∧ Hid (shB (2000 * ((N : Int) - (unk N kn : Int))) sh) ∧ Hid ((mo = true → rounds N l (mm + 1) sh kn = FIN N l f ∧ unk N kn ≤ mm) ∧ (mo = false → (sh, kn) = FIN N l f))) (fun m wr => mzr m wr rk)
    case atStart =>
      refine ⟨List.replicate N 0, (List.replicate N false).set f true, N, true, rfl, by simp, by simp, ?_, ?_, ?_, ?_, ?_, ?_⟩
      · exact (show Bk _ gs _ #[_] from HV.out).far nks.out _
      · exact HS.out.far nrs.out _
      · have h := HK.out.set_ f (.bool true)
        have e : (bls (List.replicate N false)).toArray.setIfInBounds f (.bool true) = (bls ((List.replicate N false).set f true)).toArray := bls_set _ _ _
        rw [e] at h
        exact h
      · exact HB.out.setCell hrk _
      · exact shB_zero _ _ (by have := unk_le N ((List.replicate N false).set f true); omega)
      · exact ⟨fun _ => ⟨rfl, unk_le _ _⟩, fun h => by cases h⟩
    case round =>
      obtain ⟨sh, kn, mm, mo, rfl, hsl, hkl, hv, hS, hK, hB, hbd, hst⟩ := hrel
      cases mo
      · have hfin := hide (hst.out.2 rfl)
        have hcs := hv.cell
        have HS2 := hide hS
        have HK2 := hide hK
        have HB2 := hide hB
        clear hv hS hK hB hbd hst
        go_wp2
        go_ret2
        refine ⟨some ⟨rs, 0, none⟩, N, some ⟨rk, 0, none⟩, N, rfl, ?_, ?_, HB2.out⟩
        · have h := HS2.out.ownI hrs (by unfold maxLen; omega)
          have e : sh = (FIN N l f).1 := by rw [← hfin.out]
          rw [hsl] at h
          show Own _ _ _ _ _ _ _ (ints (FIN N l f).1)
          rw [← e]
          exact h
        · have h := HK2.out.own (n := N) (k := 1) hrk (by simp [bls, hkl]) (by unfold maxLen; omega)
          have e : kn = (FIN N l f).2 := by rw [← hfin.out]
          show Own _ _ _ _ _ _ _ (bls (FIN N l f).2)
          rw [← e]
          simpa using h
      · obtain ⟨hro, hmm⟩ := hst.out.1 rfl
        have HRO := hide hro
        have HV2 := hide hv
        have HS2 := hide hS
        have HK2 := hide hK
        have HB2 := hide hB
        have HBD := hide hbd.out
        have HSL := hide hS.lt
        have hkb := (show Rd wr wr.heap.size 1 (some ⟨rk, 0, none⟩) kn.length (bls kn) from by have := hK.rd (size := 1) (n := kn.length) (by simp [bls]) hK.lt; simpa using this)
        have hkt := hK.lt
        have HCK := hide (show ∀ t u, (bls kn)[t]? = some u → wr.cell? ⟨rk, 0 + t, none⟩ = some u from fun t u hu => by rw [Nat.zero_add, hK.cell t]; simpa using hu)
        clear hro hv hS hK hB hbd hst hkb
        go_wp2_with fail
        have hC := copyOfBool_any rk 0 N kn wr (by omega) hkt HCK.out
        rw [hkl] at hC
        refine hC.mono ?_
        clear hC
        rintro e w1 ⟨Ab, cb, rfl, v, b⟩
        have HAB := hide v
        have HB3 := hide b
        clear v b
        go_wp2_with fail
        obtain ⟨w2, hw2⟩ : ∃ w2, w2 = w1.alloc (.cells #[.slice Ab N cb] 52) := ⟨_, rfl⟩
        have BX := hide (show Boxed w2 w1.heap.size 52 (.slice Ab N cb) from hw2 ▸ Boxed.new w1 _ _)
        have HB4 := hide (show Below wr.heap.size wr w2 from hw2 ▸ HB3.out.alloc HB3.out.size _)
        have HAB2 := hide (show Own w2 wr.heap.size 4 1 Ab N cb (bls kn) from hw2 ▸ HAB.out.alloc _)
        rw [← hw2]
        clear hw2
        go_loopw [10, 25] (fun m ix wq => ∃ k : Nat, k ≤ N ∧ ix = .int .i64 k ∧ m = .bool (moreK N l sh kn k) ∧ Below w.heap.size w wq ∧ Boxed wq gs 22 (.slice (some ⟨rs, 0, none⟩) N N) ∧ Bk wq rs 2 (ints (shK N l sh kn k)).toArray ∧ Bk wq rk 4 (bls (knK N l sh kn k)).toArray ∧ Boxed wq w1.heap.size 52 (.slice Ab N cb) ∧ Own wq wr.heap.size 4 1 Ab N cb (bls kn)) (fun _ ix _ => N - (intOf ix).toNat)
        case atStart =>
          exact ⟨0, by omega, rfl, rfl, HB2.out.trans (HB4.out.mono HB2.out.size), (show Bk w2 gs _ #[_] from (show Bk wr gs _ #[_] from HV2.out).below HB4.out HV2.out.lt), by rw [shK_zero hsl]; exact HS2.out.below HB4.out HS2.out.lt, by rw [knK_zero hkl]; exact HK2.out.below HB4.out HK2.out.lt, BX.out, HAB2.out⟩
        case round =>
          obtain ⟨k, hk, rfl, rfl, hb, hv, hS, hK, hbx, hab⟩ := hrel
          by_cases hlt : k < N
          · obtain ⟨gx, ox, hA, hgx, hcx⟩ := (show Rd wr wr.heap.size 1 Ab N (bls kn) from hab.rd).at_ hlt
            subst hA
            have fb : wr.cell? ⟨gx, ox + k, none⟩ = some (.bool (kat kn k)) := hcx k _ (by simp [bls, kat, List.getD_eq_getElem?_getD, List.getElem?_eq_getElem (show k < kn.length by omega)])
            have hbc := hbx.cell
            have j1 : (0 : Int) ≤ (k : Int) := by omega
            have j2 : (k : Int) < (N : Int) := by omega
            cases hkk : kat kn k
            · have HBD2 := hide (shK_bd (k := k) (kn := kn) (by simpa using HI.out) HBD.out (by have := unk_le N kn; omega))
              have hul := unk_le N kn
              have HS0 := hide (show Sees wr wr.heap.size w1.heap.size gs gx ox rs 0 N cb N (shK N l sh kn k) kn from ⟨hbx.lt, hv.lt, hgx, hS.lt, hbx.cell, hv.cell, fun a ha => hcx a _ (bls_at' (by omega)), fun a ha => by rw [Nat.zero_add, hS.cell]; exact ints_at (by rw [shK_len]; exact ha)⟩)
              rw [hkk] at fb
              have HRR := hide ((HR.out.below hb).more hb.size)
              have Q := hide (And.intro hb (And.intro hv (And.intro hS (And.intro hK (And.intro hbx hab)))))
              have HKK := hide hkk
              clear hb hv hS hK hbx hab hkk hcx
              go_wp2_with fail
              have B2 : Below wr.heap.size wr ((wr.alloc (.cells #[] 2)).alloc (.cells #[.slice (some ⟨wr.heap.size, 0, none⟩) 0 0] 22)) := ((Below.refl _ _).alloc (by omega) _).alloc (by simp) _
              have BX := Boxed.new (wr.alloc (.cells #[] 2)) 22 (.slice (some ⟨wr.heap.size, 0, none⟩) 0 0)
              rw [show (wr.alloc (.cells #[] 2)).heap.size = wr.heap.size + 1 by simp] at BX
              have hC := againstS_any A c l (k : Int) (2000 * ((N : Int) - (unk N kn : Int)) + 2000) wr.heap.size w1.heap.size (wr.heap.size + 1) gs gx ox rs 0 N cb N (shK N l sh kn k) kn (.slice (some ⟨wr.heap.size, 0, none⟩) 0 0) ((wr.alloc (.cells #[] 2)).alloc (.cells #[.slice (some ⟨wr.heap.size, 0, none⟩) 0 0] 22)) hl60 (by simpa using HI.out) (by simp; omega) (by omega) (HS0.out.below B2) HBD2.out (by omega) BX ((Own.empty_ wr 2 1 (by omega)).alloc _) (HRR.out.below B2)
              rw [li_shK hkl] at hC
              have HB6 := hide B2
              clear B2 BX
              refine hC.mono ?_
              clear hC
              rintro e w3 ⟨rfl, b3, u', hv', hrow'⟩
              obtain ⟨A', c', rfl, hown⟩ := own_cases hrow'
              have hcd := hv'.cell
              have HVD := hide hv'
              have HO := hide hown
              have HB7 := hide (HB6.out.trans b3)
              clear b3 hv' hrow' hown
              have hle := Nat.le_trans (li_len sh kn (k : Int) l) hl60
              obtain ⟨hq1, hq2⟩ := rNum_li (n := N) (l := l) (sh := sh) (kn := kn) (b := k) (by simpa using HI.out) HKK.out
              by_cases hz : (li l sh kn k).length = 0
              · have hz1 : decide ((0 : Int) < ((li l sh kn k).length : Int)) = false := by simp [hz]
                have hz2 : ¬ (0 : Int) < ((li l sh kn k).length : Int) := by omega
                have P := hide (rSh_none (sh := sh) HKK.out (hq1 ▸ hz))
                have PM := hide (show moreK N l sh kn (k + 1) = moreK N l sh kn k by rw [moreK_next, ← hq1, hz]; simp)
                clear hz hq1 hq2
                go_wp2
                go_roundw
                case rel =>
                  obtain ⟨hb, hv, hS, hK, hbx, hab⟩ := Q.out
                  have hs2 := shK_same hlt P.out.1
                  have hk2 := knK_same hlt (P.out.2.trans HKK.out.symm)
                  exact ⟨k + 1, by omega, by go_num, by rw [PM.out], hb.trans (HB7.out.mono hb.size), (show Bk _ gs _ #[_] from (show Bk wr gs _ #[_] from hv).below HB7.out hv.lt), by rw [hs2]; exact hS.below HB7.out hS.lt, by rw [hk2]; exact hK.below HB7.out hK.lt, (show Bk _ w1.heap.size _ #[_] from (show Bk wr w1.heap.size _ #[_] from hbx).below HB7.out hbx.lt), hab.below HB7.out⟩
                case measure => simp [intOf]; omega
              · have hz1 : decide ((0 : Int) < ((li l sh kn k).length : Int)) = true := by simp; omega
                have hz2 : (0 : Int) < ((li l sh kn k).length : Int) := by omega
                go_wp2_with fail
                obtain ⟨hb, hv, hS, hK, hbx, hab⟩ := Q.out
                have HV7 := (show Bk w3 gs 22 #[_] from (show Bk wr gs 22 #[_] from hv).below HB7.out hv.lt)
                have hcg := HV7.cell 0
                simp only [List.getElem?_toArray, List.getElem?_cons_zero] at hcg
                have HV7l := HV7.lt
                have HS7 := hide (hS.below HB7.out hS.lt)
                have HK7 := hide (hK.below HB7.out hK.lt)
                have ngs := hide hv.lt
                have hsl7 := HB7.out.size
                have n1 : gs ≠ rs := Boxed.ne hv hS (by decide)
                have n2 : wr.heap.size + 1 ≠ rs := by have := hS.lt; omega
                have n3 : gs ≠ rk := nks.out
                have n4 : wr.heap.size + 1 ≠ rk := by have := hK.lt; omega
                have hks := hide (show ∃ u, (ints (shK N l sh kn k)).toArray[k]? = some u from ⟨_, ints_at (by rw [shK_len]; exact hlt)⟩)
                have hkk := hide (show ∃ u, (bls (knK N l sh kn k)).toArray[k]? = some u from ⟨_, bls_at (by rw [knK_len]; exact hlt)⟩)
                clear hb hv hS hK hbx hab HV7
                have PQ := hide (And.intro hq1 hq2)
                clear hq1 hq2
                have hz3 : 0 < (li l sh kn k).length := by omega
                have nrk := nrs.out
                have LG := hide (And.intro HV7l HVD.out.lt)
                have HM := hide (median_any A' c' (li l sh kn k) w3.drew hz3 (by omega) (fun x hx => by have := li_bd (by simpa using HI.out) HBD.out x hx; omega) HO.out.rd.drew)
                go_region_held3 (fun w' => w'.cell? ⟨gs, 0, none⟩ = some (.slice (some ⟨rs, 0, none⟩) N N) ∧ w'.cell? ⟨wr.heap.size + 1, 0, none⟩ = some (.slice A' (li l sh kn k).length c')) (first | go_keep | (refine ⟨?_, ?_⟩ <;> (repeat (refine (World.cell?_setCell_other _ _ _ _ (by intro e; simp only [Addr.mk.injEq] at e; omega)).trans ?_)) <;> assumption)) (first | (go_at_call 26; refine HM.out.mono ?_; rintro e w4 ⟨rfl, b4⟩; have HS8 := HS7.out.drew.below b4 HS7.out.lt; have HK8 := HK7.out.drew.below b4 HK7.out.lt; have HB8 := hide b4; obtain ⟨us, hus⟩ := hks.out; obtain ⟨uk, huk⟩ := hkk.out; have x1 := (HS8.cell k).trans hus; have x2 := HS8.frozen k; have x3 := (HK8.cell k).trans huk; have x4 := HK8.frozen k; have HS9 := hide HS8; have HK9 := hide HK8; have x5 := (HB8.out.cell (p := ⟨gs, 0, none⟩) LG.out.1).trans hcg; have x6 := (HB8.out.cell (p := ⟨wr.heap.size + 1, 0, none⟩) LG.out.2).trans hcd; clear HS8 HK8 hus huk b4))
                all_goals
                  go_wp2
                  go_roundw
                  case rel =>
                    obtain ⟨hb, hv, hS, hK, hbx, hab⟩ := Q.out
                    have hB37 : Below wr.heap.size w3 w4 := ((Below.refl _ w3).drew).trans (HB8.out.mono hsl7)
                    have hBr : Below wr.heap.size wr w4 := HB7.out.trans hB37
                    have hS8 := rSh_some (sh := sh) (PQ.out.1 ▸ hz)
                    refine ⟨k + 1, by omega, by go_num, ?_, ?_, ?_, ?_, ?_, ?_, ?_⟩
                    · rw [moreK_next, ← PQ.out.1]; simp [hz]
                    · exact (((hb.trans (hBr.mono hb.size)).setCell hrs _).setCell hrk _)
                    · exact (((show Bk wr gs _ #[_] from hv).below hBr hv.lt).far n1 _).far n3 _
                    · have h := (HS9.out.set_ k (.int .i64 (med (li l sh kn (k : Int))))).far nrk (.bool true) (p := ⟨rk, k, none⟩)
                      rw [ints_set, PQ.out.2, ← hS8.1, ← shK_set _ _ _ _ _ hlt] at h
                      rw [PQ.out.2, ← hS8.1]
                      exact h
                    · have h := (HK9.out.far (p := ⟨rs, k, none⟩) (fun e => nrk e.symm) (.int .i64 (med (li l sh kn (k : Int))))).set_ k (.bool true)
                      rw [bls_set, show (true : Bool) = rKn N l sh kn k from hS8.2.symm, ← knK_set _ _ _ _ _ hlt] at h
                      rw [show (Value.bool true) = .bool (rKn N l sh kn k) by rw [hS8.2]]
                      exact h
                    · exact (((show Bk wr w1.heap.size _ #[_] from hbx).below hBr hbx.lt).far (Boxed.ne hbx hS (by decide)) _).far (Boxed.ne hbx hK (by decide)) _
                    · exact ((hab.below hBr).setC HSL.out _).setC hkt _
                  case measure => simp [intOf]; omega
                all_goals
                  go_wp2
                  go_roundw
                  case rel =>
                    obtain ⟨hb, hv, hS, hK, hbx, hab⟩ := Q.out
                    have hB37 : Below wr.heap.size w3 w4 := ((Below.refl _ w3).drew).trans (HB8.out.mono hsl7)
                    have hBr : Below wr.heap.size wr w4 := HB7.out.trans hB37
                    have hS8 := rSh_some (sh := sh) (PQ.out.1 ▸ hz)
                    refine ⟨k + 1, by omega, by go_num, ?_, ?_, ?_, ?_, ?_, ?_, ?_⟩
                    · rw [moreK_next, ← PQ.out.1]; simp [hz]
                    · exact (((hb.trans (hBr.mono hb.size)).setCell hrs _).setCell hrk _)
                    · exact (((show Bk wr gs _ #[_] from hv).below hBr hv.lt).far n1 _).far n3 _
                    · have h := (HS9.out.set_ k (.int .i64 (med (li l sh kn (k : Int))))).far nrk (.bool true) (p := ⟨rk, k, none⟩)
                      rw [ints_set, PQ.out.2, ← hS8.1, ← shK_set _ _ _ _ _ hlt] at h
                      rw [PQ.out.2, ← hS8.1]
                      exact h
                    · have h := (HK9.out.far (p := ⟨rs, k, none⟩) (fun e => nrk e.symm) (.int .i64 (med (li l sh kn (k : Int))))).set_ k (.bool true)
                      rw [bls_set, show (true : Bool) = rKn N l sh kn k from hS8.2.symm, ← knK_set _ _ _ _ _ hlt] at h
                      rw [show (Value.bool true) = .bool (rKn N l sh kn k) by rw [hS8.2]]
                      exact h
                    · exact (((show Bk wr w1.heap.size _ #[_] from hbx).below hBr hbx.lt).far (Boxed.ne hbx hS (by decide)) _).far (Boxed.ne hbx hK (by decide)) _
                    · exact ((hab.below hBr).setC HSL.out _).setC hkt _
                  case measure => simp [intOf]; omega
            · rw [hkk] at fb
              have hrk2 := rSh_known (n := N) (l := l) (sh := sh) hkk
              have hm2 : moreK N l sh kn (k + 1) = moreK N l sh kn k := by rw [moreK_next]; unfold rNum; rw [if_pos hkk]; simp
              have hs2 := shK_same hlt hrk2.1
              have hk2 := knK_same hlt (hrk2.2.trans hkk.symm)
              have P := hide (And.intro hm2 (And.intro hs2 hk2))
              have Q := hide (And.intro hb (And.intro hv (And.intro hS (And.intro hK (And.intro hbx hab)))))
              clear hm2 hs2 hk2 hb hv hS hK hbx hab hkk hrk2 hcx
              go_wp2
              go_roundw
              case rel =>
                obtain ⟨p1, p2, p3⟩ := P.out
                obtain ⟨hb, hv, hS, hK, hbx, hab⟩ := Q.out
                exact ⟨k + 1, by omega, by go_num, by rw [p1], hb, hv, by rw [p2]; exact hS, by rw [p3]; exact hK, hbx, hab⟩
              case measure => simp [intOf]; omega
          · have e : k = N := by omega
            have hd : ¬ (k : Int) < (N : Int) := by omega
            rw [e, shK_all] at hS
            rw [e, knK_all] at hK
            have hmo : moreK N l sh kn k = moreR N l sh kn := by rw [e, moreK_all]
            have HV5 := hide hv
            have HS5 := hide hS
            have HK5 := hide hK
            have HB5 := hide hb
            clear hv hS hK hb hbx hab
            go_wp2
            go_roundw
            case rel => exact ⟨shR N l sh kn, knR N l sh kn, mm - 1, moreR N l sh kn, by rw [hmo], by simp [shR], by simp [knR], HV5.out, HS5.out, HK5.out, HB5.out, round_bd HI.out HBD.out, round_st HRO.out hmm⟩
            case measure =>
              rw [hmo, mzr_at HK5.out, mzr_at HK2.out, fal_unk hkl, fal_unk (N := N) (by simp [knR])]
              cases hm : moreR N l sh kn
              · simp [isT]; omega
              · have := unk_less hm
                simp [isT]
                omega
theorem sprW_end : True := trivial
end Go.Proofs.Ytdbfebhmldbdbaa
