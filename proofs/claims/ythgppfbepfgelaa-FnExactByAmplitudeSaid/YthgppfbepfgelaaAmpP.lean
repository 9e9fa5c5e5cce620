/-
  Plain words on arrays of numbers: the exchange of two ranges, the rotation, the merge of two ordered ranges in place. No program.
-/
import Derived.Sort.LotA
namespace Go.Proofs.Ythgppfbepfgelaa
open Go.Sort
set_option linter.unusedVariables false
set_option linter.unusedSimpArgs false
/-- By key, equal ones by number. -/
def alt (key : Int → Int) (x y : Int) : Bool := decide (key x < key y ∨ (key x = key y ∧ x < y))
def cfk (key : Int → Int) (x y : Int) : Int := if key x = key y then 0 else if key x < key y then -1 else 1
theorem alt_swo (key : Int → Int) : SWO (alt key) := by
  constructor
  · intro x; simp [alt]
  · intro x y z h1 h2; simp only [alt, decide_eq_true_eq] at *; omega
  · intro x y z h1 h2; simp only [alt, decide_eq_false_iff_not] at *; omega
theorem alt_anti (key : Int → Int) (x y : Int) (h1 : alt key x y = false) (h2 : alt key y x = false) : x = y := by
  simp only [alt, decide_eq_false_iff_not] at *; omega
theorem alt_up {key : Int → Int} {x y : Int} (h : y < x) : alt key x y = decide (cfk key x y < 0) := by
  unfold alt cfk
  by_cases h1 : key x = key y
  · rw [if_pos h1]; rw [decide_eq_decide]; omega
  · rw [if_neg h1]
    by_cases h2 : key x < key y
    · rw [if_pos h2]; rw [decide_eq_decide]; omega
    · rw [if_neg h2]; rw [decide_eq_decide]; omega
/-- n exchanges of a + i with b + i. -/
def swR (D : Array Int) (a b : Nat) : Nat → Array Int
  | 0 => D
  | n + 1 => swp (swR D a b n) (a + n) (b + n)
theorem swR_size (D : Array Int) (a b : Nat) : ∀ n, (swR D a b n).size = D.size
  | 0 => rfl
  | n + 1 => by rw [swR, swp_size, swR_size D a b n]
theorem swR_get (D : Array Int) (a b : Nat) : ∀ n, a + n ≤ b → b + n ≤ D.size → ∀ p, (swR D a b n)[p]! = if a ≤ p ∧ p < a + n then D[b + (p - a)]! else if b ≤ p ∧ p < b + n then D[a + (p - b)]! else D[p]!
  | 0, _, _, p => by rw [swR, if_neg (by omega), if_neg (by omega)]
  | n + 1, h1, h2, p => by
    have ih := swR_get D a b n (by omega) (by omega)
    rw [swR, swp_get _ (by rw [swR_size]; omega) (by rw [swR_size]; omega), ih, ih, ih]
    by_cases e1 : p = b + n
    · subst e1
      rw [if_pos rfl, if_neg (by omega), if_neg (by omega), if_neg (by omega), if_pos (by omega)]
      congr 1; omega
    · rw [if_neg e1]
      by_cases e2 : p = a + n
      · subst e2
        rw [if_pos rfl, if_neg (by omega), if_neg (by omega), if_pos (by omega)]
        congr 1; omega
      · rw [if_neg e2]
        by_cases e3 : a ≤ p ∧ p < a + n
        · rw [if_pos e3, if_pos (by omega)]
        · rw [if_neg e3]
          by_cases e4 : b ≤ p ∧ p < b + n
          · rw [if_pos e4, if_neg (show ¬ (a ≤ p ∧ p < a + (n + 1)) by omega), if_pos (show b ≤ p ∧ p < b + (n + 1) by omega)]
          · rw [if_neg e4, if_neg (show ¬ (a ≤ p ∧ p < a + (n + 1)) by omega), if_neg (show ¬ (b ≤ p ∧ p < b + (n + 1)) by omega)]
theorem swR_perm (D : Array Int) (a b lo hi : Nat) (hlo : lo ≤ a) (hab : a ≤ b) (hs : hi ≤ D.size) : ∀ n, b + n ≤ hi → PermIn lo hi D (swR D a b n)
  | 0, _ => permIn_refl _ _ _
  | n + 1, h => permIn_trans _ _ _ _ _ (swR_perm D a b lo hi hlo hab hs n (by omega)) (swp_permIn _ _ _ _ _ (by omega) (by omega) (by omega) (by omega) (by rw [swR_size]; exact hs))
/-- The rotation: what lies at p behind it. -/
def rotT (D : Array Int) (a m b : Nat) (p : Nat) : Int := if p < a then D[p]! else if p < a + (b - m) then D[m + (p - a)]! else if p < b then D[a + (p - (a + (b - m)))]! else D[p]!
structure Rot (a m b : Nat) (D0 D : Array Int) (i j : Nat) : Prop where
  hi : i ≤ m - a
  hj : j ≤ b - m
  perm : PermIn a b D0 D
  out : ∀ p, p < m - i ∨ m + j ≤ p → D[p]! = rotT D0 a m b p
  lft : ∀ k, k < i → D[m - i + k]! = rotT D0 a m b (m - i + j + k)
  rgt : ∀ k, k < j → D[m + k]! = rotT D0 a m b (m - i + k)
theorem Rot.start {a m b : Nat} {D : Array Int} (h1 : a ≤ m) (h2 : m ≤ b) : Rot a m b D D (m - a) (b - m) := by
  refine ⟨Nat.le_refl _, Nat.le_refl _, permIn_refl _ _ _, fun p hp => ?_, fun k hk => ?_, fun k hk => ?_⟩
  · unfold rotT
    by_cases h : p < a
    · rw [if_pos h]
    · rw [if_neg h, if_neg (by omega), if_neg (by omega)]
  · unfold rotT
    rw [if_neg (by omega), if_neg (by omega), if_pos (by omega)]
    congr 1; omega
  · unfold rotT
    rw [if_neg (by omega), if_pos (by omega)]
    congr 1; omega
theorem Rot.gt {a m b : Nat} {D0 D : Array Int} {i j : Nat} (h : Rot a m b D0 D i j) (ha : a ≤ m) (hm : m ≤ b) (hb : b ≤ D.size) (hij : j < i) : Rot a m b D0 (swR D (m - i) m j) (i - j) j := by
  obtain ⟨hi, hj, perm, out, lft, rgt⟩ := h
  have g := swR_get D (m - i) m j (by omega) (by omega)
  refine ⟨by omega, hj, permIn_trans _ _ _ _ _ perm (swR_perm D _ _ a b (by omega) (by omega) hb j (by omega)), fun p hp => ?_, fun k hk => ?_, fun k hk => ?_⟩
  · rw [g]
    by_cases h1 : m - i ≤ p ∧ p < m - i + j
    · rw [if_pos h1, rgt _ (by omega)]
      congr 1; omega
    · rw [if_neg h1, if_neg (by omega)]
      exact out p (by omega)
  · rw [g, if_neg (by omega), if_neg (by omega)]
    have := lft (j + k) (by omega)
    rw [show m - i + (j + k) = m - (i - j) + k by omega] at this
    rw [this]; congr 1; omega
  · rw [g, if_neg (by omega), if_pos (by omega)]
    have := lft k (by omega)
    rw [show m - i + (m + k - m) = m - i + k by omega, this]
    congr 1; omega
theorem Rot.lt {a m b : Nat} {D0 D : Array Int} {i j : Nat} (h : Rot a m b D0 D i j) (ha : a ≤ m) (hm : m ≤ b) (hb : b ≤ D.size) (hij : i < j) : Rot a m b D0 (swR D (m - i) (m + j - i) i) i (j - i) := by
  obtain ⟨hi, hj, perm, out, lft, rgt⟩ := h
  have g := swR_get D (m - i) (m + j - i) i (by omega) (by omega)
  refine ⟨hi, by omega, permIn_trans _ _ _ _ _ perm (swR_perm D _ _ a b (by omega) (by omega) hb i (by omega)), fun p hp => ?_, fun k hk => ?_, fun k hk => ?_⟩
  · rw [g]
    by_cases h1 : m - i ≤ p ∧ p < m - i + i
    · omega
    · rw [if_neg h1]
      by_cases h2 : m + j - i ≤ p ∧ p < m + j - i + i
      · rw [if_pos h2, lft _ (by omega)]
        congr 1; omega
      · rw [if_neg h2]
        exact out p (by omega)
  · rw [g, if_pos (by omega)]
    have := rgt (j - i + k) (by omega)
    rw [show m + (j - i + k) = m + j - i + (m - i + k - (m - i)) by omega] at this
    rw [this]; congr 1; omega
  · rw [g, if_neg (by omega), if_neg (by omega)]
    exact rgt k (by omega)
theorem Rot.eq {a m b : Nat} {D0 D : Array Int} {i : Nat} (h : Rot a m b D0 D i i) (ha : a ≤ m) (hm : m ≤ b) (hb : b ≤ D.size) : PermIn a b D0 (swR D (m - i) m i) ∧ ∀ p, (swR D (m - i) m i)[p]! = rotT D0 a m b p := by
  obtain ⟨hi, hj, perm, out, lft, rgt⟩ := h
  have g := swR_get D (m - i) m i (by omega) (by omega)
  refine ⟨permIn_trans _ _ _ _ _ perm (swR_perm D _ _ a b (by omega) (by omega) hb i (by omega)), fun p => ?_⟩
  rw [g]
  by_cases h1 : m - i ≤ p ∧ p < m - i + i
  · rw [if_pos h1, rgt _ (by omega)]
    congr 1; omega
  · rw [if_neg h1]
    by_cases h2 : m ≤ p ∧ p < m + i
    · rw [if_pos h2, lft _ (by omega)]
      congr 1; omega
    · rw [if_neg h2]
      exact out p (by omega)
/-- Two ordered ranges side by side; each number of the first lies below each of the second. -/
structure Two (lt : Int → Int → Bool) (a m b : Nat) (D : Array Int) : Prop where
  l : SortedIn lt a m D
  r : SortedIn lt m b D
  x : ∀ p q, a ≤ p → p < m → m ≤ q → q < b → D[p]! < D[q]!
/-- The two halves behind the rotation. -/
theorem Two.halves {lt : Int → Int → Bool} (hS : SWO lt) {a m b s e mid : Nat} {D D' : Array Int} (h : Two lt a m b D) (h1 : a ≤ s) (h2 : s ≤ m) (h3 : m ≤ e) (h4 : e ≤ b) (hmid : s + (e - m) = mid)
    (H1 : a < s → e < b → lt D[e]! D[s - 1]! = false) (H2 : s < m → m < e → lt D[e - 1]! D[s]! = true) (hD : ∀ p, D'[p]! = rotT D s m e p) :
    Two lt a s mid D' ∧ Two lt mid e b D' ∧ ∀ p q, a ≤ p → p < mid → mid ≤ q → q < b → lt D'[q]! D'[p]! = false := by
  obtain ⟨hl, hr, hx⟩ := h
  have g1 : ∀ p, p < s → D'[p]! = D[p]! := fun p hp => by rw [hD]; unfold rotT; rw [if_pos hp]
  have g2 : ∀ p, s ≤ p → p < mid → D'[p]! = D[m + (p - s)]! := fun p hp hq => by rw [hD]; unfold rotT; rw [if_neg (by omega), if_pos (by omega)]
  have g3 : ∀ p, mid ≤ p → p < e → D'[p]! = D[s + (p - mid)]! := fun p hp hq => by rw [hD]; unfold rotT; rw [if_neg (by omega), if_neg (by omega), if_pos hq]; congr 1; omega
  have g4 : ∀ p, e ≤ p → D'[p]! = D[p]! := fun p hp => by rw [hD]; unfold rotT; rw [if_neg (by omega), if_neg (by omega), if_neg (by omega)]
  have le1 : ∀ p q, a ≤ p → p < s → e ≤ q → q < b → lt D[q]! D[p]! = false := fun p q a1 a2 a3 a4 => by
    have b1 := H1 (by omega) (by omega)
    have b2 : lt D[q]! D[s - 1]! = false := by
      by_cases eq : q = e
      · rw [eq]; exact b1
      · exact hS.ntrans _ _ _ (hr e q h3 (by omega) a4) b1
    by_cases ep : p = s - 1
    · rw [ep]; exact b2
    · exact hS.ntrans _ _ _ b2 (hl p (s - 1) a1 (by omega) (by omega))
  have le2 : ∀ p q, m ≤ p → p < e → s ≤ q → q < m → lt D[q]! D[p]! = false := fun p q a1 a2 a3 a4 => by
    have b1 := hS.asymmA (H2 (by omega) (by omega))
    have b2 : lt D[q]! D[e - 1]! = false := by
      by_cases eq : q = s
      · rw [eq]; exact b1
      · exact hS.ntrans _ _ _ (hl s q h1 (by omega) a4) b1
    by_cases ep : p = e - 1
    · rw [ep]; exact b2
    · exact hS.ntrans _ _ _ b2 (hr p (e - 1) a1 (by omega) (by omega))
  refine ⟨⟨fun i j a1 a2 a3 => ?_, fun i j a1 a2 a3 => ?_, fun p q a1 a2 a3 a4 => ?_⟩, ⟨fun i j a1 a2 a3 => ?_, fun i j a1 a2 a3 => ?_, fun p q a1 a2 a3 a4 => ?_⟩, fun p q a1 a2 a3 a4 => ?_⟩
  · rw [g1 _ (by omega), g1 _ (by omega)]; exact hl i j a1 a2 (by omega)
  · rw [g2 _ (by omega) (by omega), g2 _ (by omega) (by omega)]; exact hr _ _ (by omega) (by omega) (by omega)
  · rw [g1 _ (by omega), g2 _ (by omega) (by omega)]; exact hx _ _ (by omega) (by omega) (by omega) (by omega)
  · rw [g3 _ (by omega) (by omega), g3 _ (by omega) (by omega)]; exact hl _ _ (by omega) (by omega) (by omega)
  · rw [g4 _ (by omega), g4 _ (by omega)]; exact hr _ _ (by omega) (by omega) (by omega)
  · rw [g3 _ (by omega) (by omega), g4 _ (by omega)]; exact hx _ _ (by omega) (by omega) (by omega) (by omega)
  · by_cases hp : p < s
    · rw [g1 p hp]
      by_cases hq : q < e
      · rw [g3 q a3 hq]
        exact hl _ _ (by omega) (by omega) (by omega)
      · rw [g4 q (by omega)]
        exact le1 _ _ (by omega) (by omega) (by omega) (by omega)
    · rw [g2 p (by omega) a2]
      by_cases hq : q < e
      · rw [g3 q a3 hq]
        exact le2 _ _ (by omega) (by omega) (by omega) (by omega)
      · rw [g4 q (by omega)]
        exact hr _ _ (by omega) (by omega) (by omega)
theorem Two.left {lt : Int → Int → Bool} {a m b : Nat} {D : Array Int} (h : Two lt a m b D) (e : a = m ∨ m = b) : SortedIn lt a b D := by
  rcases e with rfl | rfl
  · exact h.r
  · exact h.l
theorem sorted_halves {lt : Int → Int → Bool} {a mid b : Nat} {D D1 D2 : Array Int} (h1 : a ≤ mid) (h2 : mid ≤ b) (hb : b ≤ D.size) (hx : ∀ p q, a ≤ p → p < mid → mid ≤ q → q < b → lt D[q]! D[p]! = false)
    (p1 : PermIn a mid D D1) (s1 : SortedIn lt a mid D1) (p2 : PermIn mid b D1 D2) (s2 : SortedIn lt mid b D2) : PermIn a b D D2 ∧ SortedIn lt a b D2 := by
  have z1 : D1.size = D.size := p1.1
  refine ⟨permIn_trans _ _ _ _ _ (permIn_mono _ _ _ _ _ _ (Nat.le_refl _) h2 hb p1) (permIn_mono _ _ _ _ _ _ h1 (Nat.le_refl _) (by omega) p2), fun i j a1 a2 a3 => ?_⟩
  by_cases hj : j < mid
  · rw [p2.2.1 i (by omega), p2.2.1 j (by omega)]; exact s1 i j a1 a2 hj
  · by_cases hi : mid ≤ i
    · exact s2 i j hi a2 a3
    · rw [p2.2.1 i (by omega)]
      refine permIn_all D1 D2 mid b (fun y => lt y D1[i]! = false) (by omega) p2 (fun q q1 q2 => ?_) j (by omega) a3
      rw [p1.2.1 q (by omega)]
      exact permIn_all D D1 a mid (fun x => lt D[q]! x = false) (by omega) p1 (fun p r1 r2 => hx p q r1 r2 q1 q2) i a1 (by omega)
/-- One number goes up to its place. -/
theorem up_sorted {lt : Int → Int → Bool} {a b i : Nat} {D D' : Array Int} (h : Two lt a (a + 1) b D) (hi : a + 1 ≤ i) (hib : i ≤ b) (hS : SWO lt)
    (H1 : ∀ p, a + 1 ≤ p → p < i → lt D[p]! D[a]! = true) (H2 : ∀ p, i ≤ p → p < b → lt D[p]! D[a]! = false) (hD : ∀ p, D'[p]! = if a ≤ p ∧ p < i - 1 then D[p + 1]! else if p = i - 1 then D[a]! else D[p]!) : SortedIn lt a b D' := by
  intro p q h1 h2 h3
  rw [hD, hD]
  by_cases c1 : p < i - 1
  · rw [if_pos (⟨h1, c1⟩ : a ≤ p ∧ p < i - 1)]
    by_cases c2 : q < i - 1
    · rw [if_pos (by omega)]; exact h.r _ _ (by omega) (by omega) (by omega)
    · rw [if_neg (by omega)]
      by_cases c3 : q = i - 1
      · rw [if_pos c3]; exact hS.asymmA (H1 _ (by omega) (by omega))
      · rw [if_neg c3]; exact h.r _ _ (by omega) (by omega) (by omega)
  · rw [if_neg (show ¬ (a ≤ p ∧ p < i - 1) by omega), if_neg (show ¬ (a ≤ q ∧ q < i - 1) by omega), if_neg (show ¬ q = i - 1 by omega)]
    by_cases c3 : p = i - 1
    · rw [if_pos c3]; exact H2 _ (by omega) (by omega)
    · rw [if_neg c3]; exact h.r _ _ (by omega) (by omega) (by omega)
/-- One number goes down to its place. -/
theorem down_sorted {lt : Int → Int → Bool} {a m i : Nat} {D D' : Array Int} (h : Two lt a m (m + 1) D) (hi : a ≤ i) (him : i ≤ m) (hS : SWO lt)
    (H1 : ∀ p, a ≤ p → p < i → lt D[m]! D[p]! = false) (H2 : ∀ p, i ≤ p → p < m → lt D[m]! D[p]! = true) (hD : ∀ p, D'[p]! = if i < p ∧ p ≤ m then D[p - 1]! else if p = i then D[m]! else D[p]!) : SortedIn lt a (m + 1) D' := by
  intro p q h1 h2 h3
  rw [hD, hD]
  by_cases c1 : i < q
  · rw [if_pos (show i < q ∧ q ≤ m by omega)]
    by_cases c2 : i < p
    · rw [if_pos (by omega)]; exact h.l _ _ (by omega) (by omega) (by omega)
    · rw [if_neg (by omega)]
      by_cases c3 : p = i
      · rw [if_pos c3]; exact hS.asymmA (H2 _ (by omega) (by omega))
      · rw [if_neg c3]; exact h.l _ _ (by omega) (by omega) (by omega)
  · rw [if_neg (show ¬ (i < q ∧ q ≤ m) by omega), if_neg (show ¬ (i < p ∧ p ≤ m) by omega), if_neg (show ¬ p = i by omega)]
    by_cases c3 : q = i
    · rw [if_pos c3]; exact H1 _ (by omega) (by omega)
    · rw [if_neg c3]; exact h.l _ _ (by omega) (by omega) (by omega)
theorem ampP_end : True := trivial
end Go.Proofs.Ythgppfbepfgelaa
