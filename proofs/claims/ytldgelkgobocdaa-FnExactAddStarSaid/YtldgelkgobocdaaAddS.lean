/-
  Contracts: an element added to a list of stars.
-/
import Derived.Test.YtldgelkgobocdaaInsS
import Derived.Test.YtldgelkgobocdaaFindS
import Derived.Test.YtldgelkgobocdaaKp
import Derived.Deep.RegionHeld3
import Derived.Deep.AppendLies
import Derived.Deep.DeepCutAuto
namespace Go.Proofs.Ytldgelkgobocdaa
open Go.RowKit Pl
set_option linter.unusedVariables false
set_option linter.unusedSimpArgs false
theorem insS_bit (lo vb : Nat) (A : Option Addr) (c i : Nat) (l : List StarT) (x : StarT) (w : World) (hn : l.length ≤ 1000) (hi : i ≤ l.length) (ho : Own w lo 85 5 A l.length c (l.flatMap StarT.cells)) (hv : Bk w vb 85 #[.string x.name, .int .i64 x.asc, .int .i64 x.dec, .int .i64 x.bri, .int .i64 x.fai]) (hne : ∀ g, (Value.slice A 0 0).ownBlock = some g → vb ≠ g) (hlo : lo ≤ w.heap.size) :
    Calls Try.prog 133 #[.slice A l.length c, .int .i64 (i : Int), .slice (some ⟨vb, 0, none⟩) 1 1] w fun e w' => ∃ A' c', e = .returned (.slice A' (l.length + 1) c') ∧ Own w' lo 85 5 A' (l.length + 1) c' ((insL l i x).flatMap StarT.cells) ∧ w.grownBy w' (Value.slice A 0 0).ownBlock := by
  rcases Nat.lt_or_ge i l.length with h | h
  · obtain ⟨h1, h2, h3, ⟨_, e, _⟩ | ⟨g, cur, e, _⟩⟩ := ho.parts
    · omega
    · subst e
      rcases Nat.lt_or_ge c (l.length + 1) with h0 | h0
      · exact InsS_grow lo vb g c i l x w hn h h0 ho hv hlo
      · exact InsS_room lo vb g c i l x w hn h h0 (hne g rfl) ho hv hlo
  · obtain rfl : i = l.length := by omega
    exact InsS_end lo vb A c l x w hn ho hv hlo
set_option maxHeartbeats 4000000 in
set_option maxRecDepth 100000 in
theorem insertedS_any (ad : Addr) (c : Nat) (l : List StarT) (x : StarT) (w : World) (hn : l.length ≤ 1000) (hr : Rd w w.heap.size 5 (some ad) l.length (l.flatMap StarT.cells)) :
    Calls Try.prog 109 #[.slice (some ad) l.length c, .agg #[.string x.name, .int .i64 x.asc, .int .i64 x.dec, .int .i64 x.bri, .int .i64 x.fai], .func (.func 110) #[] #[]] w fun e w' => ∃ A' c', e = .returned (.slice A' (l.length + 1) c') ∧ Own w' w.heap.size 85 5 A' (l.length + 1) c' ((insL l (insP (fun y : StarT => y.name.toList) l x.name.toList) x).flatMap StarT.cells) ∧ Below w.heap.size w w' := by
  obtain ⟨w0, hw0⟩ : ∃ w0, w0 = w.alloc (.cells #[.string x.name, .int .i64 x.asc, .int .i64 x.dec, .int .i64 x.bri, .int .i64 x.fai] 85) := ⟨_, rfl⟩
  have E0 := hide (show Below w.heap.size w w0 from hw0 ▸ (Below.refl _ _).alloc (Nat.le_refl _) _)
  have hz0 : w0.heap.size = w.heap.size + 1 := by rw [hw0]; simp
  have BX := hide (show Bk w0 w.heap.size 85 #[.string x.name, .int .i64 x.asc, .int .i64 x.dec, .int .i64 x.bri, .int .i64 x.fai] from by rw [hw0]; exact Bk.new _ _ _)
  have HW0 := hide hw0
  have HR := hide hr
  clear hw0 hr
  go_enter Try.func109, Try.ntmps109
  go_wp2_with fail
  rw [← HW0.out]
  go_wp2_with fail
  go_loopw [7] (fun i wr => ∃ j : Nat, j ≤ l.length ∧ i = .int .i64 j ∧ Below w0.heap.size w0 wr ∧ Hid (∀ t (h : t < l.length), t < j → Op.bytesLess ((fun y : StarT => y.name.toList) l[t]) x.name.toList = true)) (fun i _ => l.length - (intOf i).toNat)
  case atStart => exact ⟨0, by omega, rfl, Below.refl _ _, fun t _ h => absurd h (by omega)⟩
  case round =>
    obtain ⟨j, hj, rfl, hb, HS⟩ := hrel
    have HB := hide hb
    clear hb
    by_cases hlt : j < l.length
    · obtain ⟨g, off, he, hg, hc⟩ := HR.out.elem StarT.cells_len hlt
      injection he with he
      subst he
      have Hb2 := hide (E0.out.trans (HB.out.mono E0.out.size))
      have f0 : wr.cell? ⟨g, off + j * 5, none⟩ = some (.string l[j].name) := (Hb2.out.cell (p := ⟨g, off + j * 5, none⟩) hg).trans (hc 0 _ rfl)
      have f1 : wr.cell? ⟨g, off + j * 5 + 1, none⟩ = some (.int .i64 l[j].asc) := (Hb2.out.cell (p := ⟨g, off + j * 5 + 1, none⟩) hg).trans (hc 1 _ rfl)
      have f2 : wr.cell? ⟨g, off + j * 5 + 2, none⟩ = some (.int .i64 l[j].dec) := (Hb2.out.cell (p := ⟨g, off + j * 5 + 2, none⟩) hg).trans (hc 2 _ rfl)
      have f3 : wr.cell? ⟨g, off + j * 5 + 3, none⟩ = some (.int .i64 l[j].bri) := (Hb2.out.cell (p := ⟨g, off + j * 5 + 3, none⟩) hg).trans (hc 3 _ rfl)
      have f4 : wr.cell? ⟨g, off + j * 5 + 4, none⟩ = some (.int .i64 l[j].fai) := (Hb2.out.cell (p := ⟨g, off + j * 5 + 4, none⟩) hg).trans (hc 4 _ rfl)
      have xx := (BX.out.below HB.out (by omega))
      have bx0 := xx.cell 0
      have bx1 := xx.cell 1
      have bx2 := xx.cell 2
      have bx3 := xx.cell 3
      have bx4 := xx.cell 4
      simp at bx0 bx1 bx2 bx3 bx4
      have hgw : g < wr.heap.size := by have := Hb2.out.size; omega
      have hxw : w.heap.size < wr.heap.size := by have := HB.out.size; omega
      have i1 : (0 : Int) ≤ (j : Int) := by omega
      have i2 : (j : Int) < (l.length : Int) := by omega
      have K0 : Kp wr [(⟨g, off + j * 5, none⟩, .string l[j].name), (⟨g, off + j * 5 + 1, none⟩, .int .i64 l[j].asc), (⟨g, off + j * 5 + 2, none⟩, .int .i64 l[j].dec), (⟨g, off + j * 5 + 3, none⟩, .int .i64 l[j].bri), (⟨g, off + j * 5 + 4, none⟩, .int .i64 l[j].fai), (⟨w.heap.size, 0, none⟩, .string x.name), (⟨w.heap.size, 1, none⟩, .int .i64 x.asc), (⟨w.heap.size, 2, none⟩, .int .i64 x.dec), (⟨w.heap.size, 3, none⟩, .int .i64 x.bri), (⟨w.heap.size, 4, none⟩, .int .i64 x.fai)] wr.drew := ⟨(Below.refl _ _).drew, fun p hp => by
        simp only [List.mem_cons, List.not_mem_nil, or_false] at hp
        rcases hp with rfl | rfl | rfl | rfl | rfl | rfl | rfl | rfl | rfl | rfl <;> exact ⟨by assumption, by assumption⟩⟩
      clear hc xx
      cases hq : Op.bytesLess l[j].name.toList x.name.toList
      · have HE := hide (show ∀ h : j < l.length, Op.bytesLess ((fun y : StarT => y.name.toList) l[j]) x.name.toList = false from fun _ => hq)
        go_wp2_with fail
        go_region_held3 (fun w' => w'.cell? ⟨g, off + j * 5, none⟩ = some (.string l[j].name) ∧ w'.cell? ⟨g, off + j * 5 + 1, none⟩ = some (.int .i64 l[j].asc) ∧ w'.cell? ⟨g, off + j * 5 + 2, none⟩ = some (.int .i64 l[j].dec) ∧ w'.cell? ⟨g, off + j * 5 + 3, none⟩ = some (.int .i64 l[j].bri) ∧ w'.cell? ⟨g, off + j * 5 + 4, none⟩ = some (.int .i64 l[j].fai) ∧ w'.cell? ⟨w.heap.size, 0, none⟩ = some (.string x.name) ∧ w'.cell? ⟨w.heap.size, 1, none⟩ = some (.int .i64 x.asc) ∧ w'.cell? ⟨w.heap.size, 2, none⟩ = some (.int .i64 x.dec) ∧ w'.cell? ⟨w.heap.size, 3, none⟩ = some (.int .i64 x.bri) ∧ w'.cell? ⟨w.heap.size, 4, none⟩ = some (.int .i64 x.fai)) (go_keep) (first | (go_at_call 110; refine (starName_any _ _ _ _ _ _).mono ?_; rintro e w1 ⟨rfl, hb1⟩; have Kn := Kp.below (by assumption) hb1; have dd0 := Kn.at0; have dd1 := Kn.at1; have dd2 := Kn.at2; have dd3 := Kn.at3; have dd4 := Kn.at4; have dd5 := Kn.at5; have dd6 := Kn.at6; have dd7 := Kn.at7; have dd8 := Kn.at8; have dd9 := Kn.at9))
        all_goals
          have HB2 := hide (show Below w0.heap.size w0 w1 from HB.out.trans ((show Kp wr [(⟨g, off + j * 5, none⟩, .string l[j].name), (⟨g, off + j * 5 + 1, none⟩, .int .i64 l[j].asc), (⟨g, off + j * 5 + 2, none⟩, .int .i64 l[j].dec), (⟨g, off + j * 5 + 3, none⟩, .int .i64 l[j].bri), (⟨g, off + j * 5 + 4, none⟩, .int .i64 l[j].fai), (⟨w.heap.size, 0, none⟩, .string x.name), (⟨w.heap.size, 1, none⟩, .int .i64 x.asc), (⟨w.heap.size, 2, none⟩, .int .i64 x.dec), (⟨w.heap.size, 3, none⟩, .int .i64 x.bri), (⟨w.heap.size, 4, none⟩, .int .i64 x.fai)] w1 from by assumption).b.mono HB.out.size))
          go_wp2_with fail
          have HK := hide (show j = insP (fun y : StarT => y.name.toList) l x.name.toList from insP_up (by omega) HS.out HE.out)
          have UU := hide ((Below.refl w1.heap.size w1).drew)
          have hzi : w.heap.size < w1.heap.size := by have := HB2.out.size; omega
          have xx := (BX.out.below HB2.out (by omega))
          have bx0 := xx.cell 0
          have bx1 := xx.cell 1
          have bx2 := xx.cell 2
          have bx3 := xx.cell 3
          have bx4 := xx.cell 4
          simp at bx0 bx1 bx2 bx3 bx4
          clear xx
          go_wp2_with fail
          go_region_held3 (fun w' => w'.cell? ⟨w.heap.size, 0, none⟩ = some (.string x.name) ∧ w'.cell? ⟨w.heap.size, 1, none⟩ = some (.int .i64 x.asc) ∧ w'.cell? ⟨w.heap.size, 2, none⟩ = some (.int .i64 x.dec) ∧ w'.cell? ⟨w.heap.size, 3, none⟩ = some (.int .i64 x.bri) ∧ w'.cell? ⟨w.heap.size, 4, none⟩ = some (.int .i64 x.fai)) (go_keep)
            (first | (go_at_call 134; (first | (with_reducible (show Calls _ _ _ (World.drew w1) _); have hC := copyOfStar_any _ c l w1.drew (by omega) (((HR.out.below (E0.out.trans (HB2.out.mono E0.out.size))).below ((UU.out).mono (by have := HB2.out.size; have := E0.out.size; omega))).more (Nat.le_trans (by have := HB2.out.size; have := E0.out.size; omega) (UU.out).size)); refine hC.mono ?_; clear hC; rintro e wa ⟨Ac, cc, rfl, v, b⟩; have VV := hide (v.base (lo' := w1.heap.size) (by simp)); have UA := hide ((UU.out).trans (b.mono (UU.out).size))) | (with_reducible (show Calls _ _ _ (World.drew (World.alloc _ _)) _); have hC := copyOfStar_any _ c l (w1.alloc (.cells #[.string x.name, .int .i64 x.asc, .int .i64 x.dec, .int .i64 x.bri, .int .i64 x.fai] 85)).drew (by omega) (((HR.out.below (E0.out.trans (HB2.out.mono E0.out.size))).below ((((Below.refl w1.heap.size w1).alloc (Nat.le_refl _) (.cells #[.string x.name, .int .i64 x.asc, .int .i64 x.dec, .int .i64 x.bri, .int .i64 x.fai] 85)).drew).mono (by have := HB2.out.size; have := E0.out.size; omega))).more (Nat.le_trans (by have := HB2.out.size; have := E0.out.size; omega) (((Below.refl w1.heap.size w1).alloc (Nat.le_refl _) (.cells #[.string x.name, .int .i64 x.asc, .int .i64 x.dec, .int .i64 x.bri, .int .i64 x.fai] 85)).drew).size)); refine hC.mono ?_; clear hC; rintro e wa ⟨Ac, cc, rfl, v, b⟩; have VN := hide (show ∀ g, (Value.slice Ac 0 0).ownBlock = some g → w1.heap.size < g from fun g hg => by have := (v.lt (g := g) (by rw [← hg]; exact ownBlock_any _ _ _ _ _)).1; simp at this; omega); have VB := hide (show Bk wa w1.heap.size 85 #[.string x.name, .int .i64 x.asc, .int .i64 x.dec, .int .i64 x.bri, .int .i64 x.fai] from ((Bk.new w1 85 #[.string x.name, .int .i64 x.asc, .int .i64 x.dec, .int .i64 x.bri, .int .i64 x.fai]).drew).below b (by simp)); have VV := hide (v.base (lo' := w1.heap.size) (by simp)); have UA := hide ((((Below.refl w1.heap.size w1).alloc (Nat.le_refl _) (.cells #[.string x.name, .int .i64 x.asc, .int .i64 x.dec, .int .i64 x.bri, .int .i64 x.fai] 85)).drew).trans (b.mono (((Below.refl w1.heap.size w1).alloc (Nat.le_refl _) (.cells #[.string x.name, .int .i64 x.asc, .int .i64 x.dec, .int .i64 x.bri, .int .i64 x.fai] 85)).drew).size)))); clear v b; have XB := (BX.out.below (HB2.out.trans (UA.out.mono HB2.out.size)) (by omega)); have dd0 := XB.cell 0; have dd1 := XB.cell 1; have dd2 := XB.cell 2; have dd3 := XB.cell 3; have dd4 := XB.cell 4; simp at dd0 dd1 dd2 dd3 dd4; clear XB) | (go_at_call 133; (first | (with_reducible (show Calls _ _ _ (World.alloc _ _) _); have hC := (insS_bit w1.heap.size wa.heap.size Ac cc j l x (wa.alloc (.cells #[.string x.name, .int .i64 x.asc, .int .i64 x.dec, .int .i64 x.bri, .int .i64 x.fai] 85)) hn hj (VV.out.below (Below.alloc (Below.refl wa.heap.size wa) (Nat.le_refl _) (.cells #[.string x.name, .int .i64 x.asc, .int .i64 x.dec, .int .i64 x.bri, .int .i64 x.fai] 85))) (Bk.new wa 85 #[.string x.name, .int .i64 x.asc, .int .i64 x.dec, .int .i64 x.bri, .int .i64 x.fai]) (fun g hg => by have := (VV.out.lt (g := g) (by rw [← hg]; exact ownBlock_any _ _ _ _ _)).2; omega) (by have := UA.out.size; simp; omega)); refine hC.mono ?_; clear hC; rintro e wz ⟨Az, cz, rfl, v, gz⟩; have TT := hide (show Below w1.heap.size w1 wz from (UA.out.alloc UA.out.size (.cells #[.string x.name, .int .i64 x.asc, .int .i64 x.dec, .int .i64 x.bri, .int .i64 x.fai] 85)).grown gz (by have := UA.out.size; simp; omega) (fun q hq => (VV.out.lt (g := q) (by rw [← hq]; exact ownBlock_any _ _ _ _ _)).1))) | (have hC := (insS_bit w1.heap.size w1.heap.size Ac cc j l x wa hn hj VV.out VB.out (fun g hg => by have := VN.out g hg; omega) UA.out.size); refine hC.mono ?_; clear hC; rintro e wz ⟨Az, cz, rfl, v, gz⟩; have TT := hide (show Below w1.heap.size w1 wz from UA.out.grown gz UA.out.size (fun q hq => (VV.out.lt (g := q) (by rw [← hq]; exact ownBlock_any _ _ _ _ _)).1)))); have RR := hide v; clear v gz; have XB := (BX.out.below (HB2.out.trans (TT.out.mono HB2.out.size)) (by omega)); have dd0 := XB.cell 0; have dd1 := XB.cell 1; have dd2 := XB.cell 2; have dd3 := XB.cell 3; have dd4 := XB.cell 4; simp at dd0 dd1 dd2 dd3 dd4; clear XB))
          all_goals
            go_wp2
            go_ret
            exact ⟨_, _, rfl, by have := RR.out.base (lo' := w.heap.size) (by omega); rw [HK.out] at this; exact this, E0.out.trans ((HB2.out.trans (TT.out.mono HB2.out.size)).mono E0.out.size)⟩
      · have HQ := hide hq
        go_wp2_with fail
        go_region_held3 (fun w' => w'.cell? ⟨g, off + j * 5, none⟩ = some (.string l[j].name) ∧ w'.cell? ⟨g, off + j * 5 + 1, none⟩ = some (.int .i64 l[j].asc) ∧ w'.cell? ⟨g, off + j * 5 + 2, none⟩ = some (.int .i64 l[j].dec) ∧ w'.cell? ⟨g, off + j * 5 + 3, none⟩ = some (.int .i64 l[j].bri) ∧ w'.cell? ⟨g, off + j * 5 + 4, none⟩ = some (.int .i64 l[j].fai) ∧ w'.cell? ⟨w.heap.size, 0, none⟩ = some (.string x.name) ∧ w'.cell? ⟨w.heap.size, 1, none⟩ = some (.int .i64 x.asc) ∧ w'.cell? ⟨w.heap.size, 2, none⟩ = some (.int .i64 x.dec) ∧ w'.cell? ⟨w.heap.size, 3, none⟩ = some (.int .i64 x.bri) ∧ w'.cell? ⟨w.heap.size, 4, none⟩ = some (.int .i64 x.fai)) (go_keep) (first | (go_at_call 110; refine (starName_any _ _ _ _ _ _).mono ?_; rintro e w1 ⟨rfl, hb1⟩; have Kn := Kp.below (by assumption) hb1; have dd0 := Kn.at0; have dd1 := Kn.at1; have dd2 := Kn.at2; have dd3 := Kn.at3; have dd4 := Kn.at4; have dd5 := Kn.at5; have dd6 := Kn.at6; have dd7 := Kn.at7; have dd8 := Kn.at8; have dd9 := Kn.at9))
        all_goals
          have HB2 := hide (show Below w0.heap.size w0 w1 from HB.out.trans ((show Kp wr [(⟨g, off + j * 5, none⟩, .string l[j].name), (⟨g, off + j * 5 + 1, none⟩, .int .i64 l[j].asc), (⟨g, off + j * 5 + 2, none⟩, .int .i64 l[j].dec), (⟨g, off + j * 5 + 3, none⟩, .int .i64 l[j].bri), (⟨g, off + j * 5 + 4, none⟩, .int .i64 l[j].fai), (⟨w.heap.size, 0, none⟩, .string x.name), (⟨w.heap.size, 1, none⟩, .int .i64 x.asc), (⟨w.heap.size, 2, none⟩, .int .i64 x.dec), (⟨w.heap.size, 3, none⟩, .int .i64 x.bri), (⟨w.heap.size, 4, none⟩, .int .i64 x.fai)] w1 from by assumption).b.mono HB.out.size))
          go_wp2
          go_roundw
          case rel =>
            refine ⟨j + 1, by omega, by go_num, HB2.out, fun t h ht => ?_⟩
            rcases Nat.lt_or_ge t j with h0 | h0
            · exact HS.out t h h0
            · have : t = j := by omega
              subst this
              exact HQ.out
          case measure => simp [intOf]; omega
    · have HE := hide (show ∀ h : j < l.length, Op.bytesLess ((fun y : StarT => y.name.toList) l[j]) x.name.toList = false from fun h => absurd h hlt)
      have hd : decide ((j : Int) < (l.length : Int)) = false := by simp; omega
      go_wp2_with fail
      go_quiet (fail)
      obtain ⟨w1, hw1⟩ : ∃ w1, w1 = wr.drewN nq := ⟨_, rfl⟩
      have HB2 := hide (show Below w0.heap.size w0 w1 from hw1 ▸ below_drewN HB.out _)
      rw [← hw1]
      clear hw1
      have HK := hide (show j = insP (fun y : StarT => y.name.toList) l x.name.toList from insP_up (by omega) HS.out HE.out)
      have UU := hide ((Below.refl w1.heap.size w1).drew)
      have hzi : w.heap.size < w1.heap.size := by have := HB2.out.size; omega
      have xx := (BX.out.below HB2.out (by omega))
      have bx0 := xx.cell 0
      have bx1 := xx.cell 1
      have bx2 := xx.cell 2
      have bx3 := xx.cell 3
      have bx4 := xx.cell 4
      simp at bx0 bx1 bx2 bx3 bx4
      clear xx
      go_wp2_with fail
      go_region_held3 (fun w' => w'.cell? ⟨w.heap.size, 0, none⟩ = some (.string x.name) ∧ w'.cell? ⟨w.heap.size, 1, none⟩ = some (.int .i64 x.asc) ∧ w'.cell? ⟨w.heap.size, 2, none⟩ = some (.int .i64 x.dec) ∧ w'.cell? ⟨w.heap.size, 3, none⟩ = some (.int .i64 x.bri) ∧ w'.cell? ⟨w.heap.size, 4, none⟩ = some (.int .i64 x.fai)) (go_keep)
        (first | (go_at_call 134; (first | (with_reducible (show Calls _ _ _ (World.drew w1) _); have hC := copyOfStar_any _ c l w1.drew (by omega) (((HR.out.below (E0.out.trans (HB2.out.mono E0.out.size))).below ((UU.out).mono (by have := HB2.out.size; have := E0.out.size; omega))).more (Nat.le_trans (by have := HB2.out.size; have := E0.out.size; omega) (UU.out).size)); refine hC.mono ?_; clear hC; rintro e wa ⟨Ac, cc, rfl, v, b⟩; have VV := hide (v.base (lo' := w1.heap.size) (by simp)); have UA := hide ((UU.out).trans (b.mono (UU.out).size))) | (with_reducible (show Calls _ _ _ (World.drew (World.alloc _ _)) _); have hC := copyOfStar_any _ c l (w1.alloc (.cells #[.string x.name, .int .i64 x.asc, .int .i64 x.dec, .int .i64 x.bri, .int .i64 x.fai] 85)).drew (by omega) (((HR.out.below (E0.out.trans (HB2.out.mono E0.out.size))).below ((((Below.refl w1.heap.size w1).alloc (Nat.le_refl _) (.cells #[.string x.name, .int .i64 x.asc, .int .i64 x.dec, .int .i64 x.bri, .int .i64 x.fai] 85)).drew).mono (by have := HB2.out.size; have := E0.out.size; omega))).more (Nat.le_trans (by have := HB2.out.size; have := E0.out.size; omega) (((Below.refl w1.heap.size w1).alloc (Nat.le_refl _) (.cells #[.string x.name, .int .i64 x.asc, .int .i64 x.dec, .int .i64 x.bri, .int .i64 x.fai] 85)).drew).size)); refine hC.mono ?_; clear hC; rintro e wa ⟨Ac, cc, rfl, v, b⟩; have VN := hide (show ∀ g, (Value.slice Ac 0 0).ownBlock = some g → w1.heap.size < g from fun g hg => by have := (v.lt (g := g) (by rw [← hg]; exact ownBlock_any _ _ _ _ _)).1; simp at this; omega); have VB := hide (show Bk wa w1.heap.size 85 #[.string x.name, .int .i64 x.asc, .int .i64 x.dec, .int .i64 x.bri, .int .i64 x.fai] from ((Bk.new w1 85 #[.string x.name, .int .i64 x.asc, .int .i64 x.dec, .int .i64 x.bri, .int .i64 x.fai]).drew).below b (by simp)); have VV := hide (v.base (lo' := w1.heap.size) (by simp)); have UA := hide ((((Below.refl w1.heap.size w1).alloc (Nat.le_refl _) (.cells #[.string x.name, .int .i64 x.asc, .int .i64 x.dec, .int .i64 x.bri, .int .i64 x.fai] 85)).drew).trans (b.mono (((Below.refl w1.heap.size w1).alloc (Nat.le_refl _) (.cells #[.string x.name, .int .i64 x.asc, .int .i64 x.dec, .int .i64 x.bri, .int .i64 x.fai] 85)).drew).size)))); clear v b; have XB := (BX.out.below (HB2.out.trans (UA.out.mono HB2.out.size)) (by omega)); have dd0 := XB.cell 0; have dd1 := XB.cell 1; have dd2 := XB.cell 2; have dd3 := XB.cell 3; have dd4 := XB.cell 4; simp at dd0 dd1 dd2 dd3 dd4; clear XB) | (go_at_call 133; (first | (with_reducible (show Calls _ _ _ (World.alloc _ _) _); have hC := (insS_bit w1.heap.size wa.heap.size Ac cc j l x (wa.alloc (.cells #[.string x.name, .int .i64 x.asc, .int .i64 x.dec, .int .i64 x.bri, .int .i64 x.fai] 85)) hn hj (VV.out.below (Below.alloc (Below.refl wa.heap.size wa) (Nat.le_refl _) (.cells #[.string x.name, .int .i64 x.asc, .int .i64 x.dec, .int .i64 x.bri, .int .i64 x.fai] 85))) (Bk.new wa 85 #[.string x.name, .int .i64 x.asc, .int .i64 x.dec, .int .i64 x.bri, .int .i64 x.fai]) (fun g hg => by have := (VV.out.lt (g := g) (by rw [← hg]; exact ownBlock_any _ _ _ _ _)).2; omega) (by have := UA.out.size; simp; omega)); refine hC.mono ?_; clear hC; rintro e wz ⟨Az, cz, rfl, v, gz⟩; have TT := hide (show Below w1.heap.size w1 wz from (UA.out.alloc UA.out.size (.cells #[.string x.name, .int .i64 x.asc, .int .i64 x.dec, .int .i64 x.bri, .int .i64 x.fai] 85)).grown gz (by have := UA.out.size; simp; omega) (fun q hq => (VV.out.lt (g := q) (by rw [← hq]; exact ownBlock_any _ _ _ _ _)).1))) | (have hC := (insS_bit w1.heap.size w1.heap.size Ac cc j l x wa hn hj VV.out VB.out (fun g hg => by have := VN.out g hg; omega) UA.out.size); refine hC.mono ?_; clear hC; rintro e wz ⟨Az, cz, rfl, v, gz⟩; have TT := hide (show Below w1.heap.size w1 wz from UA.out.grown gz UA.out.size (fun q hq => (VV.out.lt (g := q) (by rw [← hq]; exact ownBlock_any _ _ _ _ _)).1)))); have RR := hide v; clear v gz; have XB := (BX.out.below (HB2.out.trans (TT.out.mono HB2.out.size)) (by omega)); have dd0 := XB.cell 0; have dd1 := XB.cell 1; have dd2 := XB.cell 2; have dd3 := XB.cell 3; have dd4 := XB.cell 4; simp at dd0 dd1 dd2 dd3 dd4; clear XB))
      all_goals
        go_wp2
        go_ret
        exact ⟨_, _, rfl, by have := RR.out.base (lo' := w.heap.size) (by omega); rw [HK.out] at this; exact this, E0.out.trans ((HB2.out.trans (TT.out.mono HB2.out.size)).mono E0.out.size)⟩
theorem addS_end : True := trivial
end Go.Proofs.Ytldgelkgobocdaa
