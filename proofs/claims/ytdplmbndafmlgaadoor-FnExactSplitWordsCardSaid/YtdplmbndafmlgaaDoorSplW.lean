/-
  Contracts: the words of a text, both sides; marks in a list of texts.
-/
import Derived.Test.YtdplmbndafmlgaaDoorSpA
import Derived.Test.YtdplmbndafmlgaaDoorRtA
import Derived.Test.YtdplmbndafmlgaaDoorShC
import Derived.Test.YtdplmbndafmlgaaDoorMarkT
import Derived.Test.YtdplmbndafmlgaaDoorMarkI
import Derived.Lib.SplitLaws
import Derived.Lib.CountLaws
import Derived.Outline
import Derived.MapKept
import Derived.Deep.AppendLies
import Derived.Deep.RegionHeld3
namespace Go.Proofs.YtdplmbndafmlgaaDoor
open Go.RowKit Pl
set_option linter.unusedVariables false
set_option linter.unusedSimpArgs false
theorem splA_pre {c : UInt8} : ∀ (t : List UInt8) (D : List (List UInt8)) (cur : List UInt8), splA c D cur t = D ++ splA c [] cur t
  | [], D, cur => by simp [splA]
  | x :: t, D, cur => by
    rw [splA, splA]
    split
    · rw [splA_pre t (D ++ [cur]) [], splA_pre t ([] ++ [cur]) []]; simp
    · exact splA_pre t D _
theorem spl_cons {c : UInt8} {a b : List UInt8} (ha : c ∉ a) : spl c (a ++ c :: b) = a :: spl c b := by
  rw [spl, splA_hit a b _ _ ha, splA_pre]; simp [spl]
def baL (x : List UInt8) : ByteArray := ⟨x.toArray⟩
theorem split_eq (c : UInt8) : ∀ (n : Nat) (l : List UInt8), l.length ≤ n → Lib.splitB ⟨#[c]⟩ 0 (Lib.countB (baL l) ⟨#[c]⟩) (baL l) = (spl c l).map baL := by
  intro n
  induction n with
  | zero =>
    intro l h
    have : l = [] := List.eq_nil_of_length_eq_zero (by omega)
    subst this
    have hi : Lib.indexB (baL []) ⟨#[c]⟩ = -1 := idx_none (c := c) (l := []) (by simp)
    rw [Lib.splitB_miss _ _ _ _ hi, spl_none (by simp)]; rfl
  | succ n ih =>
    intro l h
    by_cases hc : c ∈ l
    · obtain ⟨a, b, rfl, ha⟩ := part_at hc
      have hi : Lib.indexB (baL (a ++ c :: b)) ⟨#[c]⟩ = (a.length : Int) := idx_some ha
      have e1 : (baL (a ++ c :: b)).extract 0 a.length = baL a := by
        rw [baL, pc_ext]; simp [pc, baL]
      have hs : (baL (a ++ c :: b)).size = a.length + 1 + b.length := by show (a ++ c :: b).length = _; simp; omega
      have e2 : (baL (a ++ c :: b)).extract (a.length + 1) (baL (a ++ c :: b)).size = baL b := by
        rw [hs, baL, pc_ext, pc, baL]
        have h1 : (a ++ c :: b).drop (a.length + 1) = b := by rw [List.drop_append]; simp
        rw [h1, List.take_of_length_le (by omega)]
      have h1 : (1 : Nat) ≤ (⟨#[c]⟩ : ByteArray).size := Nat.le_refl 1
      have hz : (⟨#[c]⟩ : ByteArray).size = 1 := rfl
      rw [Lib.countB_hit _ _ a.length h1 hi, Nat.add_comm, Lib.splitB_hit _ _ _ _ a.length hi, spl_cons ha, hz, e2, Nat.add_zero, e1, ih b (by simp at h; omega)]
      rfl
    · have hi : Lib.indexB (baL l) ⟨#[c]⟩ = -1 := idx_none hc
      rw [Lib.splitB_miss _ _ _ _ hi, spl_none hc]; rfl
theorem split_len (c : UInt8) (l : List UInt8) : Lib.countB (baL l) ⟨#[c]⟩ + 1 = (spl c l).length := by
  have h := Lib.splitB_all (⟨#[c]⟩ : ByteArray) (Nat.le_refl 1) 0 _ (baL l) rfl
  rw [split_eq c _ l (Nat.le_refl _)] at h
  simpa using h.symm
theorem strs_map (xs : List (List UInt8)) : (xs.map baL).map Value.string = strs xs := by simp [strs, baL]
theorem strs_len (xs : List (List UInt8)) : (strs xs).length = xs.length := by simp [strs]
theorem spl_len (c : UInt8) (l : List UInt8) : (spl c l).length ≤ l.length + 1 := by have := splA_le (c := c) l [] []; simp at this; exact Nat.le_trans this (by omega)
theorem split_any (l : List UInt8) (c : UInt8) (hl : l.length ≤ 1048577) (w : World) (X : Mx w) :
    Calls Tryd.prog 72 #[.string ⟨l.toArray⟩, .string ⟨#[c]⟩] w fun e w' => e = .returned (.slice (some ⟨w.heap.size, 0, none⟩) (spl c l).length (spl c l).length) ∧ Bk w' w.heap.size 9 (strs (spl c l)).toArray ∧ Below w.heap.size w w' := by
  obtain ⟨m, hm⟩ := X
  refine (Tryd.strings_Split (baL l) ⟨#[c]⟩ m w (by show l.length < 4294967281; omega) hm (Nat.le_refl 1)).mono ?_
  rintro e w' ⟨rfl, rfl⟩
  have hn := spl_len c l
  rw [split_eq c _ l (Nat.le_refl _), strs_map, split_len]
  exact ⟨rfl, Bk.new _ _ _, (Below.refl _ _).alloc (Nat.le_refl _) _⟩
def wf (x : List UInt8) : Bool := !x.isEmpty
def wds (l : List UInt8) : List (List UInt8) := (spl 32 l).filter wf
theorem wf_hit {xs : List (List UInt8)} {k : Nat} (hk : k < xs.length) {x : List UInt8} (hx : x = xs[k]) (h : wf x = true) : (xs.take (k + 1)).filter wf = (xs.take k).filter wf ++ [x] := by
  rw [List.take_succ_eq_append_getElem hk, List.filter_append, ← hx]; simp [h]
theorem wf_miss {xs : List (List UInt8)} {k : Nat} (hk : k < xs.length) {x : List UInt8} (hx : x = xs[k]) (h : wf x = false) : (xs.take (k + 1)).filter wf = (xs.take k).filter wf := by
  rw [List.take_succ_eq_append_getElem hk, List.filter_append, ← hx]; simp [h]
theorem wf_le (xs : List (List UInt8)) (k : Nat) : ((xs.take k).filter wf).length ≤ k := Nat.le_trans (List.length_filter_le _ _) (by simp; omega)
theorem wds_len (l : List UInt8) : (wds l).length ≤ l.length + 1 := Nat.le_trans (List.length_filter_le _ _) (spl_len 32 l)
theorem wf_ne {x : List UInt8} : wf x = !((⟨x.toArray⟩ : ByteArray) == ⟨#[]⟩) := by
  cases x with
  | nil => rfl
  | cons a t =>
    have : ((⟨(a :: t).toArray⟩ : ByteArray) == ⟨#[]⟩) = false := by
      refine Bool.eq_false_iff.2 (fun h0 => ?_)
      have h := (MapKept.bytes_beq _ _).1 h0
      have := congrArg ByteArray.size h
      have e : (⟨(a :: t).toArray⟩ : ByteArray).size = t.length + 1 := by show (a :: t).length = _; simp
      rw [e] at this
      cases this
    rw [this]; rfl
set_option maxHeartbeats 2000000 in
set_option maxRecDepth 100000 in
theorem spec_SplitWords_any (l : List UInt8) (hl : l.length ≤ 1048576) (w : World) :
    Calls Tryd.prog 35 #[.string ⟨l.toArray⟩] w fun e w' => ∃ A' c', e = .returned (.slice A' (wds l).length c') ∧ Own w' w.heap.size 9 1 A' (wds l).length c' (strs (wds l)) ∧ Below w.heap.size w w' := by
  obtain ⟨i0, hi, hz0, hz1, hz2⟩ := info_parts info_str
  go_enter Tryd.func35, Tryd.ntmps35
  go_wp2_with fail
  refine (l01Split_any l 32 (by omega) _).mono ?_
  rintro e w1 ⟨A1, c1, rfl, v, b⟩
  have HB1 := hide b
  have HO := hide v
  clear v b
  go_wp2_with fail
  go_loopw [4, 5] (fun v i wr => ∃ k : Nat, k ≤ (spl 32 l).length ∧ i = .int .i64 k ∧ Below w1.heap.size w1 wr ∧ ∃ u, v = u ∧ wr.ownsRow w1.heap.size 9 1 u (((spl 32 l).take k).filter wf).length (strs (((spl 32 l).take k).filter wf))) (fun _ i _ => (spl 32 l).length - (intOf i).toNat)
  case atStart => exact ⟨0, by omega, rfl, (Below.refl _ _).alloc (Nat.le_refl _) _, _, rfl, Own.empty_ _ _ _ (Nat.le_refl _)⟩
  case round =>
    obtain ⟨k, hk, rfl, hb, u, rfl, hown⟩ := hrel
    have Hb := hide hb
    by_cases hlt : k < (spl 32 l).length
    · obtain ⟨g, off, rfl, hg, hc⟩ := (show Rd w1 w1.heap.size 1 A1 (spl 32 l).length (strs (spl 32 l)) from HO.out.rd).at_ hlt
      obtain ⟨x, hx⟩ : ∃ x, x = (spl 32 l)[k] := ⟨_, rfl⟩
      have cx : w1.cell? ⟨g, off + k, none⟩ = some (.string ⟨x.toArray⟩) := hc k _ (by simp [strs, hlt, hx])
      have f0 : wr.cell? ⟨g, off + k, none⟩ = some (.string ⟨x.toArray⟩) := (hb.cell (p := ⟨g, off + k, none⟩) hg).trans cx
      have i1 : (0 : Int) ≤ (k : Int) := by omega
      have i2 : (k : Int) < ((spl 32 l).length : Int) := by omega
      have hle := wf_le (spl 32 l) k
      have hspl := spl_len 32 l
      have hsz := Hb.out.size
      have hw := wf_ne (x := x)
      cases h1 : wf x
      · rw [h1] at hw
        have hd : x.isEmpty = true := by simpa [wf] using h1
        have HN := hide (wf_miss hlt hx h1)
        clear hx hw h1 hc
        go_wp2
        go_roundw
        case rel => exact ⟨k + 1, by omega, by go_num, Hb.out, _, rfl, by rw [HN.out]; exact hown⟩
        case measure => simp [intOf]; omega
      · rw [h1] at hw
        have hd : x.isEmpty = false := by simpa [wf] using h1
        have HN := hide (wf_hit hlt hx h1)
        clear hx hw h1 hc
        go_wp2_with (at_builtin; refine wpList_append_own _ rfl _ _ 48 rfl w1.heap.size 9 i0 (.string ⟨#[]⟩) 1 16 Tryd.underlying48 hi hz0 hz1 hz2 rfl (by decide) _ _ _ rfl (hown.alloc _) ⟨wr.heap.size, 0, none⟩ 1 1 [.string ⟨x.toArray⟩] rfl rfl ?c1 ?c2 ?c3 ?c4 ?c5 ?_)
        case c1 => exact c1_new rfl
        case c2 => intro u hu; simp at hu; subst hu; rfl
        case c3 => unfold maxLen; omega
        case c4 => omega
        case c5 => simp; omega
        intro v' w2 hown' hgrow _
        have hlen : (((spl 32 l).take k).filter wf).length + 1 = (((spl 32 l).take (k + 1)).filter wf).length := by rw [HN.out]; simp
        obtain ⟨A2, c2, rfl, hown2⟩ := Own.more (zs := strs (((spl 32 l).take (k + 1)).filter wf)) hown' hlen (by rw [HN.out, strs_app]; rfl)
        have HX := hide hown2
        have HB2 := hide (show Below w1.heap.size w1 w2 from (Hb.out.alloc Hb.out.size _).grown hgrow (by simp; omega) (fun q hq => (World.ownsRow.lt hown q hq).1))
        clear hown' hgrow hown2
        go_wp2
        go_roundw
        case rel => exact ⟨k + 1, by omega, by go_num, HB2.out, _, rfl, HX.out⟩
        case measure => simp [intOf]; omega
    · obtain rfl : k = (spl 32 l).length := by omega
      rw [List.take_length] at hown
      obtain ⟨A', c', rfl, hown2⟩ := own_cases hown
      go_wp2
      go_ret
      exact ⟨A', c', rfl, hown2.base HB1.out.size, HB1.out.trans (Hb.out.mono HB1.out.size)⟩
set_option maxHeartbeats 2000000 in
set_option maxRecDepth 100000 in
theorem impl_SplitWords_any (l : List UInt8) (hl : l.length ≤ 1048576) (w : World) (X : Mx w) :
    Calls Tryd.prog 36 #[.string ⟨l.toArray⟩] w fun e w' => ∃ A' c', e = .returned (.slice A' (wds l).length c') ∧ Own w' w.heap.size 9 1 A' (wds l).length c' (strs (wds l)) ∧ Below w.heap.size w w' := by
  obtain ⟨i0, hi, hz0, hz1, hz2⟩ := info_parts info_str
  have HX0 := hide X
  clear X
  go_enter Tryd.func36, Tryd.ntmps36
  go_wp2_with fail
  obtain ⟨w0, hw0⟩ : ∃ w0, w0 = w.alloc (.cells #[] 9) := ⟨_, rfl⟩
  have B0 := hide (show Below w.heap.size w w0 from hw0 ▸ (Below.refl _ _).alloc (Nat.le_refl _) _)
  have E0 := hide (show Own w0 w.heap.size 9 1 (some ⟨w.heap.size, 0, none⟩) 0 0 [] from hw0 ▸ Own.empty_ w 9 1 (Nat.le_refl _))
  have hs0 : w0.heap.size = w.heap.size + 1 := by rw [hw0]; simp
  rw [← hw0]
  clear hw0
  refine (split_any l 32 (by omega) w0 (HX0.out.below B0.out)).mono ?_
  rintro e w1 ⟨rfl, v, b⟩
  obtain ⟨GL, hGL⟩ : ∃ GL, GL = w0.heap.size := ⟨_, rfl⟩
  rw [← hGL] at v
  rw [← hGL]
  have E1 := hide (E0.out.below b)
  have HB1 := hide (B0.out.trans (b.mono B0.out.size))
  have HL := hide v
  have hGs : w.heap.size + 1 = GL := by omega
  clear v b hGL hs0
  go_wp2_with fail
  go_loopw [3, 10] (fun v i wr => ∃ k : Nat, k ≤ (spl 32 l).length ∧ i = .int .i64 k ∧ Below w.heap.size w wr ∧ ∃ u, v = u ∧ Bk wr GL 9 (strs (spl 32 l)).toArray ∧ u.ownBlock ≠ some GL ∧ wr.ownsRow w.heap.size 9 1 u (((spl 32 l).take k).filter wf).length (strs (((spl 32 l).take k).filter wf))) (fun _ i _ => (spl 32 l).length - (intOf i).toNat)
  case atStart => exact ⟨0, by omega, rfl, HB1.out, _, rfl, HL.out, by show ¬ some w.heap.size = some GL; intro e; injection e; omega, E1.out⟩
  case round =>
    obtain ⟨k, hk, rfl, hb, u, rfl, hL, hne, hown⟩ := hrel
    have Hb := hide hb
    by_cases hlt : k < (spl 32 l).length
    · obtain ⟨g, off, he9, hg, hc⟩ := (show Rd wr wr.heap.size 1 (some ⟨GL, 0, none⟩) (spl 32 l).length (strs (spl 32 l)) from by have := hL.rd (size := 1) (n := (spl 32 l).length) (by simp [strs]) hL.lt; simpa using this).at_ hlt
      injection he9 with he9
      injection he9 with he1 he2 _
      subst he1 he2
      simp only [Nat.zero_add] at hc
      obtain ⟨x, hx⟩ : ∃ x, x = (spl 32 l)[k] := ⟨_, rfl⟩
      have cx : wr.cell? ⟨GL, k, none⟩ = some (.string ⟨x.toArray⟩) := hc k _ (by simp [strs, hlt, hx])
      have f0 : wr.cell? ⟨GL, k, none⟩ = some (.string ⟨x.toArray⟩) := cx
      have i1 : (0 : Int) ≤ (k : Int) := by omega
      have i2 : (k : Int) < ((spl 32 l).length : Int) := by omega
      have hle := wf_le (spl 32 l) k
      have hspl := spl_len 32 l
      have hsz := Hb.out.size
      have hw := wf_ne (x := x)
      cases h1 : wf x
      · rw [h1] at hw
        have hd : x.isEmpty = true := by simpa [wf] using h1
        have HN := hide (wf_miss hlt hx h1)
        clear hx hw h1 hc
        go_wp2
        go_roundw
        case rel => exact ⟨k + 1, by omega, by go_num, Hb.out, _, rfl, hL, hne, by rw [HN.out]; exact hown⟩
        case measure => simp [intOf]; omega
      · rw [h1] at hw
        have hd : x.isEmpty = false := by simpa [wf] using h1
        have HN := hide (wf_hit hlt hx h1)
        clear hx hw h1 hc
        go_wp2_with (at_builtin; refine wpList_append_lies _ rfl _ _ 48 rfl w.heap.size 9 i0 (.string ⟨#[]⟩) 1 16 Tryd.underlying48 hi hz0 hz1 hz2 rfl (by decide) _ _ _ rfl (hown.alloc _) ⟨wr.heap.size, 0, none⟩ 1 1 [.string ⟨x.toArray⟩] rfl rfl (c1_new rfl) ?c2 (by decide) ?c3 ?c4 ?c5 (wr.heap.size + 1) (by simp) ?_)
        case c2 => first | rfl | (intro u hu; simp at hu; subst hu; rfl)
        case c3 => unfold maxLen; omega
        case c4 => omega
        case c5 => first | omega | (simp; omega)
        intro g9 cap9 w2 hown' hgrow hat _
        have hlen : (((spl 32 l).take k).filter wf).length + 1 = (((spl 32 l).take (k + 1)).filter wf).length := by rw [HN.out]; simp
        obtain ⟨A2, c2, he2, hown2⟩ := Own.more (zs := strs (((spl 32 l).take (k + 1)).filter wf)) hown' hlen (by rw [HN.out, strs_app]; rfl)
        have HX := hide hown2
        have HL2 := hide (show Bk w2 GL 9 (strs (spl 32 l)).toArray from (hL.alloc _).grown hgrow (Ne.symm hne))
        have HNE := hide (show ¬ (some g9 : Option Nat) = some GL from by rcases hat with h | h; exact h ▸ hne; have := hL.lt; intro e; injection e; omega)
        have HB2 := hide (show Below w.heap.size w w2 from (Hb.out.alloc Hb.out.size _).grown hgrow (by simp; omega) (fun q hq => (World.ownsRow.lt hown q hq).1))
        clear hown' hgrow hown2
        go_wp2
        go_roundw
        case rel => exact ⟨k + 1, by omega, by go_num, HB2.out, _, rfl, HL2.out, HNE.out, by rw [he2]; exact HX.out⟩
        case measure => simp [intOf]; omega
    · obtain rfl : k = (spl 32 l).length := by omega
      rw [List.take_length] at hown
      clear hne hL
      obtain ⟨A', c', rfl, hown2⟩ := own_cases hown
      go_wp2
      go_ret
      exact ⟨A', c', rfl, hown2, Hb.out⟩
theorem splW_end : True := trivial
end Go.Proofs.YtdplmbndafmlgaaDoor
