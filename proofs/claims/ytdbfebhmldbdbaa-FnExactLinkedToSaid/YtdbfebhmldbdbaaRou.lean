/-
  Plain words: the rounds by which the shifts of linked observers are found; the numbers of an observer in two orders.
-/
import Derived.Test.YtdbfebhmldbdbaaMedD
namespace Go.Proofs.Ytdbfebhmldbdbaa
open Go.RowKit Pl
set_option linter.unusedVariables false
set_option linter.unusedSimpArgs false
def kat (kn : List Bool) (a : Int) : Bool := kn.getD a.toNat false
def sat (sh : List Int) (a : Int) : Int := sh.getD a.toNat 0
/-- What a common estimate gives for b. -/
def liX (sh : List Int) (kn : List Bool) (b : Int) (x : ComT) : List Int :=
  if b = x.b then (if kat kn x.a = true then [sat sh x.a - x.diff] else []) else if b = x.a then (if kat kn x.b = true then [sat sh x.b - -x.diff] else []) else []
/-- The numbers of b in the list's order. -/
def li (l : List ComT) (sh : List Int) (kn : List Bool) (b : Int) : List Int := l.flatMap (liX sh kn b)
/-- The numbers that a gives for b. -/
def lsA (l : List ComT) (sh : List Int) (kn : List Bool) (b : Int) (a : Nat) : List Int := if kat kn a = true then (dfs a b l).map (fun d => sat sh a - d) else []
/-- The numbers of b in the observers' order. -/
def ls (n : Nat) (l : List ComT) (sh : List Int) (kn : List Bool) (b : Int) : List Int := (List.range n).flatMap (lsA l sh kn b)
theorem flat_split {α β : Type} (f g : α → List β) : ∀ xs : List α, (xs.flatMap fun a => f a ++ g a).Perm (xs.flatMap f ++ xs.flatMap g)
  | [] => by simp
  | x :: xs => by
    simp only [List.flatMap_cons, List.append_assoc]
    refine List.Perm.append_left _ ?_
    refine ((flat_split f g xs).append_left (g x)).trans ?_
    rw [← List.append_assoc, ← List.append_assoc]
    exact List.Perm.append_right _ List.perm_append_comm
theorem flat_one {β : Type} (f : Nat → List β) (c : Nat) (h : ∀ a, a ≠ c → f a = []) : ∀ n, c < n → (List.range n).flatMap f = f c := by
  have h0 : ∀ n, n ≤ c → (List.range n).flatMap f = [] := by
    intro n
    induction n with
    | zero => simp
    | succ n ih => intro hn; rw [List.range_succ, List.flatMap_append, ih (by omega)]; simp [h n (by omega)]
  intro n
  induction n with
  | zero => intro hn; omega
  | succ n ih =>
    intro hn
    rw [List.range_succ, List.flatMap_append]
    by_cases e : n = c
    · subst e; rw [h0 n (Nat.le_refl _)]; simp
    · rw [ih (by omega)]; simp [h n e]
theorem flat_nil {α β : Type} (f : α → List β) (h : ∀ a, f a = []) : ∀ xs : List α, xs.flatMap f = []
  | [] => rfl
  | x :: xs => by rw [List.flatMap_cons, h x, flat_nil f h xs]; rfl
/-- An estimate's part of what a gives for b. -/
def lsX (sh : List Int) (kn : List Bool) (b : Int) (x : ComT) (a : Nat) : List Int := if kat kn a = true then (dif a b x).map (fun d => sat sh a - d) else []
theorem lsX_all {sh : List Int} {kn : List Bool} {b : Int} {x : ComT} {n : Nat} (ha : 0 ≤ x.a ∧ x.a < n) (hb : 0 ≤ x.b ∧ x.b < n) (hx : x.a ≠ x.b) : (List.range n).flatMap (lsX sh kn b x) = liX sh kn b x := by
  by_cases e1 : b = x.b
  · have hc : ((x.a.toNat : Nat) : Int) = x.a := by omega
    rw [flat_one (lsX sh kn b x) x.a.toNat (fun a h => ?_) n (by omega)]
    · unfold lsX liX
      rw [hc, if_pos e1]
      have : dif x.a b x = [x.diff] := by unfold dif; rw [if_pos ⟨rfl, e1.symm⟩]
      rw [this]; rfl
    · unfold lsX
      have : dif (a : Int) b x = [] := by unfold dif; rw [if_neg (by omega), if_neg (by omega)]
      rw [this]; simp
  · by_cases e2 : b = x.a
    · have hc : ((x.b.toNat : Nat) : Int) = x.b := by omega
      rw [flat_one (lsX sh kn b x) x.b.toNat (fun a h => ?_) n (by omega)]
      · unfold lsX liX
        rw [hc, if_neg e1, if_pos e2]
        have : dif x.b b x = [-x.diff] := by unfold dif; rw [if_neg (by omega), if_pos ⟨e2.symm, rfl⟩]
        rw [this]; rfl
      · unfold lsX
        have : dif (a : Int) b x = [] := by unfold dif; rw [if_neg (by omega), if_neg (by omega)]
        rw [this]; simp
    · rw [flat_nil (lsX sh kn b x) (fun a => ?_)]
      · unfold liX; rw [if_neg e1, if_neg e2]
      · unfold lsX
        have : dif (a : Int) b x = [] := by unfold dif; rw [if_neg (by omega), if_neg (by omega)]
        rw [this]; simp
theorem lsA_cons (x : ComT) (l : List ComT) (sh : List Int) (kn : List Bool) (b : Int) (a : Nat) : lsA (x :: l) sh kn b a = lsX sh kn b x a ++ lsA l sh kn b a := by
  unfold lsA lsX
  by_cases h : kat kn a = true
  · rw [if_pos h, if_pos h, if_pos h]; simp [dfs]
  · rw [if_neg h, if_neg h, if_neg h]; rfl
def InR (n : Nat) (l : List ComT) : Prop := ∀ x ∈ l, 0 ≤ x.a ∧ x.a < (n : Int) ∧ 0 ≤ x.b ∧ x.b < (n : Int) ∧ x.a ≠ x.b ∧ -2000 ≤ x.diff ∧ x.diff ≤ 2000
/-- The two orders hold the same numbers. -/
theorem li_ls {n : Nat} (sh : List Int) (kn : List Bool) (b : Int) : ∀ {l : List ComT}, InR n l → (li l sh kn b).Perm (ls n l sh kn b)
  | [], _ => by
    have h : ls n [] sh kn b = [] := flat_nil _ (fun a => by unfold lsA; split <;> rfl) _
    rw [h]; exact List.Perm.nil
  | x :: l, h => by
    obtain ⟨h1, h2, h3, h4, h5, _⟩ := h x (by simp)
    have e : ls n (x :: l) sh kn b = (List.range n).flatMap fun a => lsX sh kn b x a ++ lsA l sh kn b a := by
      unfold ls; congr 1; funext a; exact lsA_cons x l sh kn b a
    rw [e]
    refine List.Perm.trans ?_ (flat_split _ _ _).symm
    rw [lsX_all ⟨h1, h2⟩ ⟨h3, h4⟩ h5]
    exact List.Perm.append_left _ (li_ls sh kn b (fun y hy => h y (List.mem_cons_of_mem _ hy)))
theorem med_perm {l m : List Int} (h : l.Perm m) : med l = med m := by
  unfold med
  rw [srt_congr h, h.length_eq]
/-- A round: the shifts and who is known behind it. -/
def rNum (n : Nat) (l : List ComT) (sh : List Int) (kn : List Bool) (b : Nat) : List Int := if kat kn b = true then [] else ls n l sh kn b
def rSh (n : Nat) (l : List ComT) (sh : List Int) (kn : List Bool) (b : Nat) : Int := if (rNum n l sh kn b).length = 0 then sat sh b else med (rNum n l sh kn b)
def rKn (n : Nat) (l : List ComT) (sh : List Int) (kn : List Bool) (b : Nat) : Bool := kat kn b || !decide ((rNum n l sh kn b).length = 0)
def shR (n : Nat) (l : List ComT) (sh : List Int) (kn : List Bool) : List Int := (List.range n).map (rSh n l sh kn)
def knR (n : Nat) (l : List ComT) (sh : List Int) (kn : List Bool) : List Bool := (List.range n).map (rKn n l sh kn)
/-- Whether a round finds somebody. -/
def moreR (n : Nat) (l : List ComT) (sh : List Int) (kn : List Bool) : Bool := (List.range n).any fun b => !decide ((rNum n l sh kn b).length = 0)
/-- The rounds, at most m of them. -/
def rounds (n : Nat) (l : List ComT) : Nat → List Int → List Bool → List Int × List Bool
  | 0, sh, kn => (sh, kn)
  | m + 1, sh, kn => if moreR n l sh kn = true then rounds n l m (shR n l sh kn) (knR n l sh kn) else (shR n l sh kn, knR n l sh kn)
theorem cnt_le (p q : Nat → Bool) (h : ∀ b, p b = true → q b = true) : ∀ xs : List Nat, (xs.filter p).length ≤ (xs.filter q).length
  | [] => Nat.le_refl _
  | x :: xs => by
    have ih := cnt_le p q h xs
    rw [List.filter_cons, List.filter_cons]
    by_cases hp : p x = true
    · rw [if_pos hp, if_pos (h x hp)]; simp; exact ih
    · rw [if_neg hp]
      split
      · simp; omega
      · exact ih
theorem cnt_lt (p q : Nat → Bool) (h : ∀ b, p b = true → q b = true) : ∀ xs : List Nat, (∃ b ∈ xs, q b = true ∧ p b = false) → (xs.filter p).length < (xs.filter q).length
  | [], he => by obtain ⟨b, hb, _⟩ := he; cases hb
  | x :: xs, he => by
    have il := cnt_le p q h xs
    rw [List.filter_cons, List.filter_cons]
    obtain ⟨b, hb, hq, hp⟩ := he
    rcases List.mem_cons.1 hb with rfl | hb
    · rw [if_neg (by rw [hp]; simp), if_pos hq]; simp; omega
    · have ih := cnt_lt p q h xs ⟨b, hb, hq, hp⟩
      by_cases hp2 : p x = true
      · rw [if_pos hp2, if_pos (h x hp2)]; simp; exact ih
      · rw [if_neg hp2]
        split
        · simp; omega
        · exact ih
/-- How many are not known. -/
def unk (n : Nat) (kn : List Bool) : Nat := ((List.range n).filter fun b : Nat => !kat kn (b : Int)).length
theorem unk_le (n : Nat) (kn : List Bool) : unk n kn ≤ n := Nat.le_trans (List.length_filter_le _ _) (by simp)
theorem kat_R {n : Nat} {l : List ComT} {sh : List Int} {kn : List Bool} {b : Nat} (hb : b < n) : kat (knR n l sh kn) b = rKn n l sh kn b := by
  unfold kat knR; simp [hb]
theorem sat_R {n : Nat} {l : List ComT} {sh : List Int} {kn : List Bool} {b : Nat} (hb : b < n) : sat (shR n l sh kn) b = rSh n l sh kn b := by
  unfold sat shR; simp [hb]
theorem filter_cg {p q : Nat → Bool} {xs : List Nat} (h : ∀ b ∈ xs, p b = q b) : xs.filter p = xs.filter q := List.filter_congr h
theorem unk_less {n : Nat} {l : List ComT} {sh : List Int} {kn : List Bool} (h : moreR n l sh kn = true) : unk n (knR n l sh kn) < unk n kn := by
  have e : unk n (knR n l sh kn) = ((List.range n).filter fun b : Nat => !rKn n l sh kn b).length := by
    unfold unk
    exact congrArg List.length (filter_cg (fun b hb => by rw [kat_R (List.mem_range.1 hb)]))
  rw [e]
  refine cnt_lt _ _ (fun b hb => ?_) _ ?_
  · unfold rKn at hb
    cases hk : kat kn b
    · rfl
    · rw [hk] at hb; simp at hb
  · unfold moreR at h
    obtain ⟨b, hb, hp⟩ := List.any_eq_true.1 h
    refine ⟨b, hb, ?_, ?_⟩
    · cases hk : kat kn b
      · rfl
      · unfold rNum at hp; rw [if_pos hk] at hp; simp at hp
    · unfold rKn; rw [hp]; simp
theorem med_bd {l : List Int} {B : Int} (h : ∀ x ∈ l, -B ≤ x ∧ x ≤ B) (hl : l.length ≠ 0) : -B ≤ med l ∧ med l ≤ B := by
  have hn := srt_len l
  have hg : ∀ i, i < l.length → -B ≤ (srt l).getD i 0 ∧ (srt l).getD i 0 ≤ B := by
    intro i hi
    rw [List.getD_eq_getElem?_getD, List.getElem?_eq_getElem (by omega)]
    exact h _ ((srt_perm l).subset (List.getElem_mem _))
  unfold med
  split
  · exact hg _ (by omega)
  · have h1 := hg (l.length / 2 - 1) (by omega)
    have h2 := hg (l.length / 2) (by omega)
    unfold near
    omega
def shB (B : Int) (sh : List Int) : Prop := ∀ a : Nat, -B ≤ sat sh a ∧ sat sh a ≤ B
theorem lsA_bd {n : Nat} {l : List ComT} {sh : List Int} {kn : List Bool} {b : Int} {a : Nat} {B : Int} (hl : InR n l) (hs : shB B sh) : ∀ x ∈ lsA l sh kn b a, -(B + 2000) ≤ x ∧ x ≤ B + 2000 := by
  intro x hx
  unfold lsA at hx
  split at hx
  · obtain ⟨d, hd, rfl⟩ := List.mem_map.1 hx
    have hd2 := dfs_bd (a := (a : Int)) (b := b) (l := l) (fun i hi => (hl _ (List.getElem_mem hi)).2.2.2.2.2) d hd
    have := hs a
    omega
  · cases hx
theorem ls_bd {n : Nat} {l : List ComT} {sh : List Int} {kn : List Bool} {b : Int} {B : Int} (hl : InR n l) (hs : shB B sh) : ∀ x ∈ ls n l sh kn b, -(B + 2000) ≤ x ∧ x ≤ B + 2000 := by
  intro x hx
  obtain ⟨a, _, ha⟩ := List.mem_flatMap.1 hx
  exact lsA_bd hl hs x ha
theorem rSh_bd {n : Nat} {l : List ComT} {sh : List Int} {kn : List Bool} {b : Nat} {B : Int} (hl : InR n l) (hs : shB B sh) (hB : 0 ≤ B) : -(B + 2000) ≤ rSh n l sh kn b ∧ rSh n l sh kn b ≤ B + 2000 := by
  unfold rSh
  split
  · have := hs b; omega
  · refine med_bd (fun x hx => ?_) (by assumption)
    unfold rNum at hx
    split at hx
    · cases hx
    · exact ls_bd hl hs x hx
theorem shB_R {n : Nat} {l : List ComT} {sh : List Int} {kn : List Bool} {B : Int} (hl : InR n l) (hs : shB B sh) (hB : 0 ≤ B) : shB (B + 2000) (shR n l sh kn) := by
  intro a
  by_cases ha : a < n
  · rw [sat_R ha]; exact rSh_bd hl hs hB
  · have : sat (shR n l sh kn) a = 0 := by unfold sat shR; simp [List.getD_eq_getElem?_getD]; rw [List.getElem?_eq_none (by simp; omega)]; rfl
    rw [this]; omega
theorem ls_len {n : Nat} (sh : List Int) (kn : List Bool) (b : Int) {l : List ComT} (h : InR n l) : (ls n l sh kn b).length ≤ l.length := by
  rw [← (li_ls sh kn b h).length_eq]
  have : ∀ m : List ComT, (li m sh kn b).length ≤ m.length := by
    intro m
    induction m with
    | nil => simp [li]
    | cons x m ih =>
      have hx : (liX sh kn b x).length ≤ 1 := by unfold liX; split <;> split <;> (try split) <;> simp
      simp only [li, List.flatMap_cons, List.length_append, List.length_cons] at ih ⊢
      omega
  exact this l
theorem rou_end : True := trivial
end Go.Proofs.Ytdbfebhmldbdbaa
