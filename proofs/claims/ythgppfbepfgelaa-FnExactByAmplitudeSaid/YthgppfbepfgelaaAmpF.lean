/-
  Contracts: the stable sort of at most 60 numbers.
-/
import Derived.Test.YthgppfbepfgelaaAmpE
namespace Go.Proofs.Ythgppfbepfgelaa
open Go.RowKit Pl Go.Sort
set_option linter.unusedVariables false
set_option linter.unusedSimpArgs false
theorem symMerge_any (A : Option Addr) (c : Nat) (l : List StarT) (g cap lo gb gl : Nat) (rest : List Value) (hlo : lo ≤ g) (hK : KOk l) : ∀ (N a m b : Nat) (D : Array Int) (w : World), b - a ≤ N → Rw w g rest D → Finds w lo gb gl A c l → a < m → m < b → b ≤ D.size → D.size ≤ 1000 → InL l.length D → Two (alt (keyS l)) a m b D →
    Calls Try.prog 42 #[.slice (some ⟨g, 0, none⟩) D.size cap, .int .i64 a, .int .i64 m, .int .i64 b, .func (.func 29) #[] #[.pointer (some ⟨gb, 0, none⟩)]] w fun e w' => e = .returned (.tuple #[]) ∧ (∃ D', Rw w' g rest D' ∧ PermIn a b D D' ∧ SortedIn (alt (keyS l)) a b D') ∧ Below lo w w'
  | 0, a, m, b, D, w, h, hR, hF, h1, h2, h3, h4, h5, h6 => by omega
  | N + 1, a, m, b, D, w, h, hR, hF, h1, h2, h3, h4, h5, h6 => by
    by_cases e1 : m = a + 1
    · exact sym1_any A c l g cap lo gb gl a m b rest D w hR hlo hF hK h1 h2 h3 h4 h5 h6 e1
    · by_cases e2 : b = m + 1
      · exact sym2_any A c l g cap lo gb gl a m b rest D w hR hlo hF hK h1 h2 h3 h4 h5 h6 e1 e2
      · refine symG_any A c l g cap lo gb gl a m b rest D w hR hlo hF hK h1 h2 h3 h4 h5 h6 e1 e2 ?_
        intro a' m' b' D' w' k0 ks k1 k2 k3 k4 k5 k6 k7
        have := symMerge_any A c l g cap lo gb gl rest hlo hK N a' m' b' D' w' (by omega) k1 k2 k3 k4 (by omega) (by omega) k6 k7
        rw [ks] at this
        exact this
/-- An ordered block that holds the numbers of its own places. -/
structure Blk (lt : Int → Int → Bool) (a b : Nat) (D : Array Int) : Prop where
  s : SortedIn lt a b D
  v : ∀ p, a ≤ p → p < b → (a : Int) ≤ D[p]! ∧ D[p]! < (b : Int)
def Ids (a n : Nat) (D : Array Int) : Prop := ∀ p, a ≤ p → p < n → D[p]! = (p : Int)
section
variable {lt : Int → Int → Bool} {a b m n a' b' : Nat} {D D' : Array Int}
theorem Blk.keep (h : Blk lt a b D) (hp : PermIn a' b' D D') (hd : b ≤ a' ∨ b' ≤ a) : Blk lt a b D' := by
  have hq : ∀ p, a ≤ p → p < b → D'[p]! = D[p]! := fun p h1 h2 => hp.2.1 p (by omega)
  exact ⟨fun i j h1 h2 h3 => by rw [hq i h1 (by omega), hq j (by omega) h3]; exact h.s i j h1 h2 h3, fun p h1 h2 => by rw [hq p h1 h2]; exact h.v p h1 h2⟩
theorem Ids.keep (h : Ids a n D) (hp : PermIn a' b' D D') (hd : b' ≤ a) : Ids a n D' := fun p h1 h2 => by rw [hp.2.1 p (by omega)]; exact h p h1 h2
theorem Ids.sub (h : Ids a n D) (h1 : a ≤ a') : Ids a' n D := fun p h2 h3 => h p (by omega) h3
theorem Ids.up (h : Ids a n D) (hb : b ≤ n) : ∀ p q, a ≤ p → p < q → q < b → D[p]! < D[q]! := fun p q h1 h2 h3 => by rw [h p h1 (by omega), h q (by omega) (by omega)]; omega
theorem Blk.ins (h : Ids a n D) (hbn : b ≤ n) (hn : n ≤ D.size) (hp : PermIn a b D D') (hs : SortedIn lt a b D') : Blk lt a b D' :=
  ⟨hs, fun p h1 h2 => permIn_all D D' a b (fun x => (a : Int) ≤ x ∧ x < (b : Int)) (by omega) hp (fun q q1 q2 => by rw [h q q1 (by omega)]; omega) p h1 h2⟩
theorem Blk.two (h : Blk lt a m D) (h' : Blk lt m b D) : Two lt a m b D :=
  ⟨h.s, h'.s, fun p q h1 h2 h3 h4 => by have := (h.v p h1 h2).2; have := (h'.v q h3 h4).1; omega⟩
theorem Blk.merge (h : Blk lt a m D) (h' : Blk lt m b D) (hab : a ≤ m) (hmb : m ≤ b) (hb : b ≤ D.size) (hp : PermIn a b D D') (hs : SortedIn lt a b D') : Blk lt a b D' :=
  ⟨hs, fun p h1 h2 => permIn_all D D' a b (fun x => (a : Int) ≤ x ∧ x < (b : Int)) hb hp (fun q q1 q2 => by
    by_cases e : q < m
    · have := h.v q q1 e; omega
    · have := h'.v q (by omega) q2; omega) p h1 h2⟩
theorem Ids.inL {M : Nat} (h : Ids 0 D.size D) (hM : D.size ≤ M) : InL M D := fun p hp => by rw [h p (Nat.zero_le _) hp]; omega
end
set_option maxHeartbeats 4000000 in
set_option maxRecDepth 100000 in
theorem stableA_any (A : Option Addr) (c : Nat) (l : List StarT) (g cap lo gb gl n : Nat) (rest : List Value) (D0 : Array Int) (w0 : World) (hR : Rw w0 g rest D0) (hlo : lo ≤ g) (hF : Finds w0 lo gb gl A c l) (hK : KOk l) (hs : D0.size = n) (hM : n ≤ l.length) (hid : Ids 0 n D0) (hn : n < 20) :
    Calls Try.prog 37 #[.slice (some ⟨g, 0, none⟩) n cap, .int .i64 n, .func (.func 29) #[] #[.pointer (some ⟨gb, 0, none⟩)]] w0 fun e w' => e = .returned (.tuple #[]) ∧ (∃ D', Rw w' g rest D' ∧ PermIn 0 n D0 D' ∧ SortedIn (alt (keyS l)) 0 n D') ∧ Below lo w0 w' := by
  have HK := hide hK
  have HW0 := hide hR
  have HF0 := hide hF
  have HL0 := hide (Below.refl lo w0)
  have HP0 := hide (permIn_refl D0 0 n)
  have HZ0 := hide hs
  have HD0 := hide (show InL l.length D0 from Ids.inL (by rw [hs]; exact hid) (by omega))
  have HI := hide hid
  clear hK hR hF hs hid
  go_enter Try.func37, Try.ntmps37
  have n1 : ¬ (20 : Int) ≤ (n : Int) := by omega
  have n2 : ¬ (20 : Int) < (n : Int) := by omega
  go_wp2_with fail
  refine wp_loop_rounds 1 ?_
  rw [rounds_succ]
  have hC := insSort_any A c l g cap lo gb gl 0 n rest D0 w0 HW0.out hlo HF0.out HK.out (by omega) (by have := HZ0.out; omega) (by have := HZ0.out; omega) HD0.out (HI.out.up (show n ≤ n by omega))
  rw [HZ0.out] at hC
  try rw [show ((0 : Nat) : Int) = 0 from rfl] at hC
  try rw [show ((20 : Nat) : Int) = 20 from rfl] at hC
  try rw [show ((40 : Nat) : Int) = 40 from rfl] at hC
  try rw [show ((60 : Nat) : Int) = 60 from rfl] at hC
  have HC := hide hC
  clear hC
  go_wp2_with fail
  refine HC.out.mono ?_
  rintro e w1 ⟨rfl, ⟨D1, x1, x2, x3⟩, x4⟩
  have HW1 := hide x1
  have HL1 := hide (HL0.out.trans x4)
  have HF1 := hide (HF0.out.below x4)
  have HZ1 := hide (x2.1.trans HZ0.out)
  have HP1 := hide (permIn_trans _ _ _ _ _ HP0.out (permIn_mono _ _ _ _ _ _ (Nat.zero_le _) (show n ≤ n by omega) (by have := HZ0.out; omega) x2))
  have HD1 := hide (HD0.out.perm x2 (by have := HZ0.out; omega))
  have X2 := hide x2
  have X3 := hide x3
  clear x1 x2 x3 x4 HC
  have B0_1 := hide (Blk.ins HI.out (show n ≤ n by omega) (by have := HZ0.out; omega) X2.out X3.out)
  have HI2 := hide (show Ids n n D1 from (HI.out.sub (show 0 ≤ n by omega)).keep X2.out (Nat.le_refl _))
  clear HI
  have HI := hide HI2.out
  clear HI2 X2 X3
  go_wp2_with fail
  refine wp_loop_rounds 1 ?_
  rw [rounds_succ]
  go_wp2
  go_end0
  have hB := B0_1.out.s
  exact ⟨rfl, ⟨D1, HW1.out, HP1.out, hB⟩, HL1.out⟩
set_option maxHeartbeats 4000000 in
set_option maxRecDepth 100000 in
theorem stableBz_any (A : Option Addr) (c : Nat) (l : List StarT) (g cap lo gb gl n : Nat) (rest : List Value) (D0 : Array Int) (w0 : World) (hR : Rw w0 g rest D0) (hlo : lo ≤ g) (hF : Finds w0 lo gb gl A c l) (hK : KOk l) (hs : D0.size = n) (hM : n ≤ l.length) (hid : Ids 0 n D0) (hn : 20 ≤ n ∧ n < 21) :
    Calls Try.prog 37 #[.slice (some ⟨g, 0, none⟩) n cap, .int .i64 n, .func (.func 29) #[] #[.pointer (some ⟨gb, 0, none⟩)]] w0 fun e w' => e = .returned (.tuple #[]) ∧ (∃ D', Rw w' g rest D' ∧ PermIn 0 n D0 D' ∧ SortedIn (alt (keyS l)) 0 n D') ∧ Below lo w0 w' := by
  have HK := hide hK
  have HW0 := hide hR
  have HF0 := hide hF
  have HL0 := hide (Below.refl lo w0)
  have HP0 := hide (permIn_refl D0 0 n)
  have HZ0 := hide hs
  have HD0 := hide (show InL l.length D0 from Ids.inL (by rw [hs]; exact hid) (by omega))
  have HI := hide hid
  clear hK hR hF hs hid
  go_enter Try.func37, Try.ntmps37
  have n1 : (20 : Int) ≤ (n : Int) := by omega
  have n2 : ¬ (20 : Int) < (n : Int) := by omega
  have n3 : ¬ (40 : Int) ≤ (n : Int) := by omega
  go_wp2_with fail
  refine wp_loop_rounds 2 ?_
  rw [rounds_succ]
  have hC := insSort_any A c l g cap lo gb gl 0 20 rest D0 w0 HW0.out hlo HF0.out HK.out (by omega) (by have := HZ0.out; omega) (by have := HZ0.out; omega) HD0.out (HI.out.up (show 20 ≤ n by omega))
  rw [HZ0.out] at hC
  try rw [show ((0 : Nat) : Int) = 0 from rfl] at hC
  try rw [show ((20 : Nat) : Int) = 20 from rfl] at hC
  try rw [show ((40 : Nat) : Int) = 40 from rfl] at hC
  try rw [show ((60 : Nat) : Int) = 60 from rfl] at hC
  have HC := hide hC
  clear hC
  go_wp2_with fail
  refine HC.out.mono ?_
  rintro e w1 ⟨rfl, ⟨D1, x1, x2, x3⟩, x4⟩
  have HW1 := hide x1
  have HL1 := hide (HL0.out.trans x4)
  have HF1 := hide (HF0.out.below x4)
  have HZ1 := hide (x2.1.trans HZ0.out)
  have HP1 := hide (permIn_trans _ _ _ _ _ HP0.out (permIn_mono _ _ _ _ _ _ (Nat.zero_le _) (show 20 ≤ n by omega) (by have := HZ0.out; omega) x2))
  have HD1 := hide (HD0.out.perm x2 (by have := HZ0.out; omega))
  have X2 := hide x2
  have X3 := hide x3
  clear x1 x2 x3 x4 HC
  have B0_1 := hide (Blk.ins HI.out (show 20 ≤ n by omega) (by have := HZ0.out; omega) X2.out X3.out)
  have HI2 := hide (show Ids 20 n D1 from (HI.out.sub (show 0 ≤ 20 by omega)).keep X2.out (Nat.le_refl _))
  clear HI
  have HI := hide HI2.out
  clear HI2 X2 X3
  go_wp2_with fail
  rw [rounds_succ]
  have hC := insSort_any A c l g cap lo gb gl 20 n rest D1 w1 HW1.out hlo HF1.out HK.out (by omega) (by have := HZ1.out; omega) (by have := HZ1.out; omega) HD1.out (HI.out.up (show n ≤ n by omega))
  rw [HZ1.out] at hC
  try rw [show ((0 : Nat) : Int) = 0 from rfl] at hC
  try rw [show ((20 : Nat) : Int) = 20 from rfl] at hC
  try rw [show ((40 : Nat) : Int) = 40 from rfl] at hC
  try rw [show ((60 : Nat) : Int) = 60 from rfl] at hC
  have HC := hide hC
  clear hC
  go_wp2_with fail
  refine HC.out.mono ?_
  rintro e w2 ⟨rfl, ⟨D2, x1, x2, x3⟩, x4⟩
  have HW2 := hide x1
  have HL2 := hide (HL1.out.trans x4)
  have HF2 := hide (HF1.out.below x4)
  have HZ2 := hide (x2.1.trans HZ1.out)
  have HP2 := hide (permIn_trans _ _ _ _ _ HP1.out (permIn_mono _ _ _ _ _ _ (Nat.zero_le _) (show n ≤ n by omega) (by have := HZ1.out; omega) x2))
  have HD2 := hide (HD1.out.perm x2 (by have := HZ1.out; omega))
  have X2 := hide x2
  have X3 := hide x3
  clear x1 x2 x3 x4 HC
  have B0_2 := hide (B0_1.out.keep X2.out (by omega))
  have B20_2 := hide (Blk.ins HI.out (show n ≤ n by omega) (by have := HZ1.out; omega) X2.out X3.out)
  have HI2 := hide (show Ids n n D2 from (HI.out.sub (show 20 ≤ n by omega)).keep X2.out (Nat.le_refl _))
  clear HI
  have HI := hide HI2.out
  clear HI2 X2 X3
  go_wp2_with fail
  refine wp_loop_rounds 1 ?_
  rw [rounds_succ]
  go_wp2
  go_end0
  have hB := B0_2.out.s
  exact ⟨rfl, ⟨D2, HW2.out, HP2.out, by intro i j h1 h2 h3; exact hB i j h1 h2 (by omega)⟩, HL2.out⟩
set_option maxHeartbeats 4000000 in
set_option maxRecDepth 100000 in
theorem stableB_any (A : Option Addr) (c : Nat) (l : List StarT) (g cap lo gb gl n : Nat) (rest : List Value) (D0 : Array Int) (w0 : World) (hR : Rw w0 g rest D0) (hlo : lo ≤ g) (hF : Finds w0 lo gb gl A c l) (hK : KOk l) (hs : D0.size = n) (hM : n ≤ l.length) (hid : Ids 0 n D0) (hn : 20 < n) (hn2 : n < 40) :
    Calls Try.prog 37 #[.slice (some ⟨g, 0, none⟩) n cap, .int .i64 n, .func (.func 29) #[] #[.pointer (some ⟨gb, 0, none⟩)]] w0 fun e w' => e = .returned (.tuple #[]) ∧ (∃ D', Rw w' g rest D' ∧ PermIn 0 n D0 D' ∧ SortedIn (alt (keyS l)) 0 n D') ∧ Below lo w0 w' := by
  have HK := hide hK
  have HW0 := hide hR
  have HF0 := hide hF
  have HL0 := hide (Below.refl lo w0)
  have HP0 := hide (permIn_refl D0 0 n)
  have HZ0 := hide hs
  have HD0 := hide (show InL l.length D0 from Ids.inL (by rw [hs]; exact hid) (by omega))
  have HI := hide hid
  clear hK hR hF hs hid
  go_enter Try.func37, Try.ntmps37
  have n1 : (20 : Int) ≤ (n : Int) := by omega
  have n2 : (20 : Int) < (n : Int) := by omega
  have n3 : ¬ (40 : Int) ≤ (n : Int) := by omega
  have n4 : ¬ (40 : Int) < (n : Int) := by omega
  go_wp2_with fail
  refine wp_loop_rounds 2 ?_
  rw [rounds_succ]
  have hC := insSort_any A c l g cap lo gb gl 0 20 rest D0 w0 HW0.out hlo HF0.out HK.out (by omega) (by have := HZ0.out; omega) (by have := HZ0.out; omega) HD0.out (HI.out.up (show 20 ≤ n by omega))
  rw [HZ0.out] at hC
  try rw [show ((0 : Nat) : Int) = 0 from rfl] at hC
  try rw [show ((20 : Nat) : Int) = 20 from rfl] at hC
  try rw [show ((40 : Nat) : Int) = 40 from rfl] at hC
  try rw [show ((60 : Nat) : Int) = 60 from rfl] at hC
  have HC := hide hC
  clear hC
  go_wp2_with fail
  refine HC.out.mono ?_
  rintro e w1 ⟨rfl, ⟨D1, x1, x2, x3⟩, x4⟩
  have HW1 := hide x1
  have HL1 := hide (HL0.out.trans x4)
  have HF1 := hide (HF0.out.below x4)
  have HZ1 := hide (x2.1.trans HZ0.out)
  have HP1 := hide (permIn_trans _ _ _ _ _ HP0.out (permIn_mono _ _ _ _ _ _ (Nat.zero_le _) (show 20 ≤ n by omega) (by have := HZ0.out; omega) x2))
  have HD1 := hide (HD0.out.perm x2 (by have := HZ0.out; omega))
  have X2 := hide x2
  have X3 := hide x3
  clear x1 x2 x3 x4 HC
  have B0_1 := hide (Blk.ins HI.out (show 20 ≤ n by omega) (by have := HZ0.out; omega) X2.out X3.out)
  have HI2 := hide (show Ids 20 n D1 from (HI.out.sub (show 0 ≤ 20 by omega)).keep X2.out (Nat.le_refl _))
  clear HI
  have HI := hide HI2.out
  clear HI2 X2 X3
  go_wp2_with fail
  rw [rounds_succ]
  have hC := insSort_any A c l g cap lo gb gl 20 n rest D1 w1 HW1.out hlo HF1.out HK.out (by omega) (by have := HZ1.out; omega) (by have := HZ1.out; omega) HD1.out (HI.out.up (show n ≤ n by omega))
  rw [HZ1.out] at hC
  try rw [show ((0 : Nat) : Int) = 0 from rfl] at hC
  try rw [show ((20 : Nat) : Int) = 20 from rfl] at hC
  try rw [show ((40 : Nat) : Int) = 40 from rfl] at hC
  try rw [show ((60 : Nat) : Int) = 60 from rfl] at hC
  have HC := hide hC
  clear hC
  go_wp2_with fail
  refine HC.out.mono ?_
  rintro e w2 ⟨rfl, ⟨D2, x1, x2, x3⟩, x4⟩
  have HW2 := hide x1
  have HL2 := hide (HL1.out.trans x4)
  have HF2 := hide (HF1.out.below x4)
  have HZ2 := hide (x2.1.trans HZ1.out)
  have HP2 := hide (permIn_trans _ _ _ _ _ HP1.out (permIn_mono _ _ _ _ _ _ (Nat.zero_le _) (show n ≤ n by omega) (by have := HZ1.out; omega) x2))
  have HD2 := hide (HD1.out.perm x2 (by have := HZ1.out; omega))
  have X2 := hide x2
  have X3 := hide x3
  clear x1 x2 x3 x4 HC
  have B0_2 := hide (B0_1.out.keep X2.out (by omega))
  have B20_2 := hide (Blk.ins HI.out (show n ≤ n by omega) (by have := HZ1.out; omega) X2.out X3.out)
  have HI2 := hide (show Ids n n D2 from (HI.out.sub (show 20 ≤ n by omega)).keep X2.out (Nat.le_refl _))
  clear HI
  have HI := hide HI2.out
  clear HI2 X2 X3
  go_wp2_with fail
  refine wp_loop_rounds 2 ?_
  rw [rounds_succ]
  go_wp2_with fail
  refine wp_loop_rounds 1 ?_
  rw [rounds_succ]
  have hC := symMerge_any A c l g cap lo gb gl rest hlo HK.out (n - 0) 0 20 n D2 w2 (Nat.le_refl _) HW2.out HF2.out (by omega) (by omega) (by have := HZ2.out; omega) (by have := HZ2.out; omega) HD2.out (B0_2.out.two B20_2.out)
  rw [HZ2.out] at hC
  try rw [show ((0 : Nat) : Int) = 0 from rfl] at hC
  try rw [show ((20 : Nat) : Int) = 20 from rfl] at hC
  try rw [show ((40 : Nat) : Int) = 40 from rfl] at hC
  try rw [show ((60 : Nat) : Int) = 60 from rfl] at hC
  have HC := hide hC
  clear hC
  go_wp2_with fail
  refine HC.out.mono ?_
  rintro e w3 ⟨rfl, ⟨D3, x1, x2, x3⟩, x4⟩
  have HW3 := hide x1
  have HL3 := hide (HL2.out.trans x4)
  have HF3 := hide (HF2.out.below x4)
  have HZ3 := hide (x2.1.trans HZ2.out)
  have HP3 := hide (permIn_trans _ _ _ _ _ HP2.out (permIn_mono _ _ _ _ _ _ (Nat.zero_le _) (show n ≤ n by omega) (by have := HZ2.out; omega) x2))
  have HD3 := hide (HD2.out.perm x2 (by have := HZ2.out; omega))
  have X2 := hide x2
  have X3 := hide x3
  clear x1 x2 x3 x4 HC
  have B0_3 := hide (B0_2.out.merge B20_2.out (by omega) (by omega) (by have := HZ2.out; omega) X2.out X3.out)
  clear X2 X3
  go_wp2_with fail
  rw [rounds_succ]
  go_wp2
  go_end0
  have hB := B0_3.out.s
  exact ⟨rfl, ⟨D3, HW3.out, HP3.out, hB⟩, HL3.out⟩
set_option maxHeartbeats 4000000 in
set_option maxRecDepth 100000 in
theorem stableCz_any (A : Option Addr) (c : Nat) (l : List StarT) (g cap lo gb gl n : Nat) (rest : List Value) (D0 : Array Int) (w0 : World) (hR : Rw w0 g rest D0) (hlo : lo ≤ g) (hF : Finds w0 lo gb gl A c l) (hK : KOk l) (hs : D0.size = n) (hM : n ≤ l.length) (hid : Ids 0 n D0) (hn : 40 ≤ n ∧ n < 41) :
    Calls Try.prog 37 #[.slice (some ⟨g, 0, none⟩) n cap, .int .i64 n, .func (.func 29) #[] #[.pointer (some ⟨gb, 0, none⟩)]] w0 fun e w' => e = .returned (.tuple #[]) ∧ (∃ D', Rw w' g rest D' ∧ PermIn 0 n D0 D' ∧ SortedIn (alt (keyS l)) 0 n D') ∧ Below lo w0 w' := by
  have HK := hide hK
  have HW0 := hide hR
  have HF0 := hide hF
  have HL0 := hide (Below.refl lo w0)
  have HP0 := hide (permIn_refl D0 0 n)
  have HZ0 := hide hs
  have HD0 := hide (show InL l.length D0 from Ids.inL (by rw [hs]; exact hid) (by omega))
  have HI := hide hid
  clear hK hR hF hs hid
  go_enter Try.func37, Try.ntmps37
  have n20 : (20 : Int) ≤ (n : Int) := by omega
  have m20 : (20 : Int) < (n : Int) := by omega
  have n40 : (40 : Int) ≤ (n : Int) := by omega
  have m40 : ¬ (40 : Int) < (n : Int) := by omega
  have n60 : ¬ (60 : Int) ≤ (n : Int) := by omega
  have m60 : ¬ (60 : Int) < (n : Int) := by omega
  have n80 : ¬ (80 : Int) ≤ (n : Int) := by omega
  have m80 : ¬ (80 : Int) < (n : Int) := by omega
  go_wp2_with fail
  refine wp_loop_rounds 3 ?_
  rw [rounds_succ]
  have hC := insSort_any A c l g cap lo gb gl 0 20 rest D0 w0 HW0.out hlo HF0.out HK.out (by omega) (by have := HZ0.out; omega) (by have := HZ0.out; omega) HD0.out (HI.out.up (show 20 ≤ n by omega))
  rw [HZ0.out] at hC
  try rw [show ((0 : Nat) : Int) = 0 from rfl] at hC
  try rw [show ((20 : Nat) : Int) = 20 from rfl] at hC
  try rw [show ((40 : Nat) : Int) = 40 from rfl] at hC
  try rw [show ((60 : Nat) : Int) = 60 from rfl] at hC
  have HC := hide hC
  clear hC
  go_wp2_with fail
  refine HC.out.mono ?_
  rintro e w1 ⟨rfl, ⟨D1, x1, x2, x3⟩, x4⟩
  have HW1 := hide x1
  have HL1 := hide (HL0.out.trans x4)
  have HF1 := hide (HF0.out.below x4)
  have HZ1 := hide (x2.1.trans HZ0.out)
  have HP1 := hide (permIn_trans _ _ _ _ _ HP0.out (permIn_mono _ _ _ _ _ _ (Nat.zero_le _) (show 20 ≤ n by omega) (by have := HZ0.out; omega) x2))
  have HD1 := hide (HD0.out.perm x2 (by have := HZ0.out; omega))
  have X2 := hide x2
  have X3 := hide x3
  clear x1 x2 x3 x4 HC
  have B0_1 := hide (Blk.ins HI.out (show 20 ≤ n by omega) (by have := HZ0.out; omega) X2.out X3.out)
  have HI2 := hide (show Ids 20 n D1 from (HI.out.sub (show 0 ≤ 20 by omega)).keep X2.out (Nat.le_refl _))
  clear HI
  have HI := hide HI2.out
  clear HI2 X2 X3
  go_wp2_with fail
  rw [rounds_succ]
  have hC := insSort_any A c l g cap lo gb gl 20 40 rest D1 w1 HW1.out hlo HF1.out HK.out (by omega) (by have := HZ1.out; omega) (by have := HZ1.out; omega) HD1.out (HI.out.up (show 40 ≤ n by omega))
  rw [HZ1.out] at hC
  try rw [show ((0 : Nat) : Int) = 0 from rfl] at hC
  try rw [show ((20 : Nat) : Int) = 20 from rfl] at hC
  try rw [show ((40 : Nat) : Int) = 40 from rfl] at hC
  try rw [show ((60 : Nat) : Int) = 60 from rfl] at hC
  have HC := hide hC
  clear hC
  go_wp2_with fail
  refine HC.out.mono ?_
  rintro e w2 ⟨rfl, ⟨D2, x1, x2, x3⟩, x4⟩
  have HW2 := hide x1
  have HL2 := hide (HL1.out.trans x4)
  have HF2 := hide (HF1.out.below x4)
  have HZ2 := hide (x2.1.trans HZ1.out)
  have HP2 := hide (permIn_trans _ _ _ _ _ HP1.out (permIn_mono _ _ _ _ _ _ (Nat.zero_le _) (show 40 ≤ n by omega) (by have := HZ1.out; omega) x2))
  have HD2 := hide (HD1.out.perm x2 (by have := HZ1.out; omega))
  have X2 := hide x2
  have X3 := hide x3
  clear x1 x2 x3 x4 HC
  have B0_2 := hide (B0_1.out.keep X2.out (by omega))
  have B20_2 := hide (Blk.ins HI.out (show 40 ≤ n by omega) (by have := HZ1.out; omega) X2.out X3.out)
  have HI2 := hide (show Ids 40 n D2 from (HI.out.sub (show 20 ≤ 40 by omega)).keep X2.out (Nat.le_refl _))
  clear HI
  have HI := hide HI2.out
  clear HI2 X2 X3
  go_wp2_with fail
  rw [rounds_succ]
  have hC := insSort_any A c l g cap lo gb gl 40 n rest D2 w2 HW2.out hlo HF2.out HK.out (by omega) (by have := HZ2.out; omega) (by have := HZ2.out; omega) HD2.out (HI.out.up (show n ≤ n by omega))
  rw [HZ2.out] at hC
  try rw [show ((0 : Nat) : Int) = 0 from rfl] at hC
  try rw [show ((20 : Nat) : Int) = 20 from rfl] at hC
  try rw [show ((40 : Nat) : Int) = 40 from rfl] at hC
  try rw [show ((60 : Nat) : Int) = 60 from rfl] at hC
  have HC := hide hC
  clear hC
  go_wp2_with fail
  refine HC.out.mono ?_
  rintro e w3 ⟨rfl, ⟨D3, x1, x2, x3⟩, x4⟩
  have HW3 := hide x1
  have HL3 := hide (HL2.out.trans x4)
  have HF3 := hide (HF2.out.below x4)
  have HZ3 := hide (x2.1.trans HZ2.out)
  have HP3 := hide (permIn_trans _ _ _ _ _ HP2.out (permIn_mono _ _ _ _ _ _ (Nat.zero_le _) (show n ≤ n by omega) (by have := HZ2.out; omega) x2))
  have HD3 := hide (HD2.out.perm x2 (by have := HZ2.out; omega))
  have X2 := hide x2
  have X3 := hide x3
  clear x1 x2 x3 x4 HC
  have B0_3 := hide (B0_2.out.keep X2.out (by omega))
  have B20_3 := hide (B20_2.out.keep X2.out (by omega))
  have B40_3 := hide (Blk.ins HI.out (show n ≤ n by omega) (by have := HZ2.out; omega) X2.out X3.out)
  have HI2 := hide (show Ids n n D3 from (HI.out.sub (show 40 ≤ n by omega)).keep X2.out (Nat.le_refl _))
  clear HI
  have HI := hide HI2.out
  clear HI2 X2 X3
  go_wp2_with fail
  refine wp_loop_rounds 2 ?_
  rw [rounds_succ]
  go_wp2_with fail
  refine wp_loop_rounds 2 ?_
  rw [rounds_succ]
  have hC := symMerge_any A c l g cap lo gb gl rest hlo HK.out (40 - 0) 0 20 40 D3 w3 (Nat.le_refl _) HW3.out HF3.out (by omega) (by omega) (by have := HZ3.out; omega) (by have := HZ3.out; omega) HD3.out (B0_3.out.two B20_3.out)
  rw [HZ3.out] at hC
  try rw [show ((0 : Nat) : Int) = 0 from rfl] at hC
  try rw [show ((20 : Nat) : Int) = 20 from rfl] at hC
  try rw [show ((40 : Nat) : Int) = 40 from rfl] at hC
  try rw [show ((60 : Nat) : Int) = 60 from rfl] at hC
  have HC := hide hC
  clear hC
  go_wp2_with fail
  refine HC.out.mono ?_
  rintro e w4 ⟨rfl, ⟨D4, x1, x2, x3⟩, x4⟩
  have HW4 := hide x1
  have HL4 := hide (HL3.out.trans x4)
  have HF4 := hide (HF3.out.below x4)
  have HZ4 := hide (x2.1.trans HZ3.out)
  have HP4 := hide (permIn_trans _ _ _ _ _ HP3.out (permIn_mono _ _ _ _ _ _ (Nat.zero_le _) (show 40 ≤ n by omega) (by have := HZ3.out; omega) x2))
  have HD4 := hide (HD3.out.perm x2 (by have := HZ3.out; omega))
  have X2 := hide x2
  have X3 := hide x3
  clear x1 x2 x3 x4 HC
  have B0_4 := hide (B0_3.out.merge B20_3.out (by omega) (by omega) (by have := HZ3.out; omega) X2.out X3.out)
  clear X2 X3
  go_wp2_with fail
  rw [rounds_succ]
  go_wp2_with fail
  rw [rounds_succ]
  go_wp2
  go_end0
  have hB := B0_4.out.s
  exact ⟨rfl, ⟨D4, HW4.out, HP4.out, by intro i j h1 h2 h3; exact hB i j h1 h2 (by omega)⟩, HL4.out⟩
set_option maxHeartbeats 4000000 in
set_option maxRecDepth 100000 in
theorem stableC_any (A : Option Addr) (c : Nat) (l : List StarT) (g cap lo gb gl n : Nat) (rest : List Value) (D0 : Array Int) (w0 : World) (hR : Rw w0 g rest D0) (hlo : lo ≤ g) (hF : Finds w0 lo gb gl A c l) (hK : KOk l) (hs : D0.size = n) (hM : n ≤ l.length) (hid : Ids 0 n D0) (hn : 40 < n) (hn2 : n < 60) :
    Calls Try.prog 37 #[.slice (some ⟨g, 0, none⟩) n cap, .int .i64 n, .func (.func 29) #[] #[.pointer (some ⟨gb, 0, none⟩)]] w0 fun e w' => e = .returned (.tuple #[]) ∧ (∃ D', Rw w' g rest D' ∧ PermIn 0 n D0 D' ∧ SortedIn (alt (keyS l)) 0 n D') ∧ Below lo w0 w' := by
  have HK := hide hK
  have HW0 := hide hR
  have HF0 := hide hF
  have HL0 := hide (Below.refl lo w0)
  have HP0 := hide (permIn_refl D0 0 n)
  have HZ0 := hide hs
  have HD0 := hide (show InL l.length D0 from Ids.inL (by rw [hs]; exact hid) (by omega))
  have HI := hide hid
  clear hK hR hF hs hid
  go_enter Try.func37, Try.ntmps37
  have n20 : (20 : Int) ≤ (n : Int) := by omega
  have m20 : (20 : Int) < (n : Int) := by omega
  have n40 : (40 : Int) ≤ (n : Int) := by omega
  have m40 : (40 : Int) < (n : Int) := by omega
  have n60 : ¬ (60 : Int) ≤ (n : Int) := by omega
  have m60 : ¬ (60 : Int) < (n : Int) := by omega
  have n80 : ¬ (80 : Int) ≤ (n : Int) := by omega
  have m80 : ¬ (80 : Int) < (n : Int) := by omega
  go_wp2_with fail
  refine wp_loop_rounds 3 ?_
  rw [rounds_succ]
  have hC := insSort_any A c l g cap lo gb gl 0 20 rest D0 w0 HW0.out hlo HF0.out HK.out (by omega) (by have := HZ0.out; omega) (by have := HZ0.out; omega) HD0.out (HI.out.up (show 20 ≤ n by omega))
  rw [HZ0.out] at hC
  try rw [show ((0 : Nat) : Int) = 0 from rfl] at hC
  try rw [show ((20 : Nat) : Int) = 20 from rfl] at hC
  try rw [show ((40 : Nat) : Int) = 40 from rfl] at hC
  try rw [show ((60 : Nat) : Int) = 60 from rfl] at hC
  have HC := hide hC
  clear hC
  go_wp2_with fail
  refine HC.out.mono ?_
  rintro e w1 ⟨rfl, ⟨D1, x1, x2, x3⟩, x4⟩
  have HW1 := hide x1
  have HL1 := hide (HL0.out.trans x4)
  have HF1 := hide (HF0.out.below x4)
  have HZ1 := hide (x2.1.trans HZ0.out)
  have HP1 := hide (permIn_trans _ _ _ _ _ HP0.out (permIn_mono _ _ _ _ _ _ (Nat.zero_le _) (show 20 ≤ n by omega) (by have := HZ0.out; omega) x2))
  have HD1 := hide (HD0.out.perm x2 (by have := HZ0.out; omega))
  have X2 := hide x2
  have X3 := hide x3
  clear x1 x2 x3 x4 HC
  have B0_1 := hide (Blk.ins HI.out (show 20 ≤ n by omega) (by have := HZ0.out; omega) X2.out X3.out)
  have HI2 := hide (show Ids 20 n D1 from (HI.out.sub (show 0 ≤ 20 by omega)).keep X2.out (Nat.le_refl _))
  clear HI
  have HI := hide HI2.out
  clear HI2 X2 X3
  go_wp2_with fail
  rw [rounds_succ]
  have hC := insSort_any A c l g cap lo gb gl 20 40 rest D1 w1 HW1.out hlo HF1.out HK.out (by omega) (by have := HZ1.out; omega) (by have := HZ1.out; omega) HD1.out (HI.out.up (show 40 ≤ n by omega))
  rw [HZ1.out] at hC
  try rw [show ((0 : Nat) : Int) = 0 from rfl] at hC
  try rw [show ((20 : Nat) : Int) = 20 from rfl] at hC
  try rw [show ((40 : Nat) : Int) = 40 from rfl] at hC
  try rw [show ((60 : Nat) : Int) = 60 from rfl] at hC
  have HC := hide hC
  clear hC
  go_wp2_with fail
  refine HC.out.mono ?_
  rintro e w2 ⟨rfl, ⟨D2, x1, x2, x3⟩, x4⟩
  have HW2 := hide x1
  have HL2 := hide (HL1.out.trans x4)
  have HF2 := hide (HF1.out.below x4)
  have HZ2 := hide (x2.1.trans HZ1.out)
  have HP2 := hide (permIn_trans _ _ _ _ _ HP1.out (permIn_mono _ _ _ _ _ _ (Nat.zero_le _) (show 40 ≤ n by omega) (by have := HZ1.out; omega) x2))
  have HD2 := hide (HD1.out.perm x2 (by have := HZ1.out; omega))
  have X2 := hide x2
  have X3 := hide x3
  clear x1 x2 x3 x4 HC
  have B0_2 := hide (B0_1.out.keep X2.out (by omega))
  have B20_2 := hide (Blk.ins HI.out (show 40 ≤ n by omega) (by have := HZ1.out; omega) X2.out X3.out)
  have HI2 := hide (show Ids 40 n D2 from (HI.out.sub (show 20 ≤ 40 by omega)).keep X2.out (Nat.le_refl _))
  clear HI
  have HI := hide HI2.out
  clear HI2 X2 X3
  go_wp2_with fail
  rw [rounds_succ]
  have hC := insSort_any A c l g cap lo gb gl 40 n rest D2 w2 HW2.out hlo HF2.out HK.out (by omega) (by have := HZ2.out; omega) (by have := HZ2.out; omega) HD2.out (HI.out.up (show n ≤ n by omega))
  rw [HZ2.out] at hC
  try rw [show ((0 : Nat) : Int) = 0 from rfl] at hC
  try rw [show ((20 : Nat) : Int) = 20 from rfl] at hC
  try rw [show ((40 : Nat) : Int) = 40 from rfl] at hC
  try rw [show ((60 : Nat) : Int) = 60 from rfl] at hC
  have HC := hide hC
  clear hC
  go_wp2_with fail
  refine HC.out.mono ?_
  rintro e w3 ⟨rfl, ⟨D3, x1, x2, x3⟩, x4⟩
  have HW3 := hide x1
  have HL3 := hide (HL2.out.trans x4)
  have HF3 := hide (HF2.out.below x4)
  have HZ3 := hide (x2.1.trans HZ2.out)
  have HP3 := hide (permIn_trans _ _ _ _ _ HP2.out (permIn_mono _ _ _ _ _ _ (Nat.zero_le _) (show n ≤ n by omega) (by have := HZ2.out; omega) x2))
  have HD3 := hide (HD2.out.perm x2 (by have := HZ2.out; omega))
  have X2 := hide x2
  have X3 := hide x3
  clear x1 x2 x3 x4 HC
  have B0_3 := hide (B0_2.out.keep X2.out (by omega))
  have B20_3 := hide (B20_2.out.keep X2.out (by omega))
  have B40_3 := hide (Blk.ins HI.out (show n ≤ n by omega) (by have := HZ2.out; omega) X2.out X3.out)
  have HI2 := hide (show Ids n n D3 from (HI.out.sub (show 40 ≤ n by omega)).keep X2.out (Nat.le_refl _))
  clear HI
  have HI := hide HI2.out
  clear HI2 X2 X3
  go_wp2_with fail
  refine wp_loop_rounds 3 ?_
  rw [rounds_succ]
  go_wp2_with fail
  refine wp_loop_rounds 2 ?_
  rw [rounds_succ]
  have hC := symMerge_any A c l g cap lo gb gl rest hlo HK.out (40 - 0) 0 20 40 D3 w3 (Nat.le_refl _) HW3.out HF3.out (by omega) (by omega) (by have := HZ3.out; omega) (by have := HZ3.out; omega) HD3.out (B0_3.out.two B20_3.out)
  rw [HZ3.out] at hC
  try rw [show ((0 : Nat) : Int) = 0 from rfl] at hC
  try rw [show ((20 : Nat) : Int) = 20 from rfl] at hC
  try rw [show ((40 : Nat) : Int) = 40 from rfl] at hC
  try rw [show ((60 : Nat) : Int) = 60 from rfl] at hC
  have HC := hide hC
  clear hC
  go_wp2_with fail
  refine HC.out.mono ?_
  rintro e w4 ⟨rfl, ⟨D4, x1, x2, x3⟩, x4⟩
  have HW4 := hide x1
  have HL4 := hide (HL3.out.trans x4)
  have HF4 := hide (HF3.out.below x4)
  have HZ4 := hide (x2.1.trans HZ3.out)
  have HP4 := hide (permIn_trans _ _ _ _ _ HP3.out (permIn_mono _ _ _ _ _ _ (Nat.zero_le _) (show 40 ≤ n by omega) (by have := HZ3.out; omega) x2))
  have HD4 := hide (HD3.out.perm x2 (by have := HZ3.out; omega))
  have X2 := hide x2
  have X3 := hide x3
  clear x1 x2 x3 x4 HC
  have B40_4 := hide (B40_3.out.keep X2.out (by omega))
  have B0_4 := hide (B0_3.out.merge B20_3.out (by omega) (by omega) (by have := HZ3.out; omega) X2.out X3.out)
  clear X2 X3
  go_wp2_with fail
  rw [rounds_succ]
  go_wp2_with fail
  rw [rounds_succ]
  go_wp2_with fail
  refine wp_loop_rounds 1 ?_
  rw [rounds_succ]
  have hC := symMerge_any A c l g cap lo gb gl rest hlo HK.out (n - 0) 0 40 n D4 w4 (Nat.le_refl _) HW4.out HF4.out (by omega) (by omega) (by have := HZ4.out; omega) (by have := HZ4.out; omega) HD4.out (B0_4.out.two B40_4.out)
  rw [HZ4.out] at hC
  try rw [show ((0 : Nat) : Int) = 0 from rfl] at hC
  try rw [show ((20 : Nat) : Int) = 20 from rfl] at hC
  try rw [show ((40 : Nat) : Int) = 40 from rfl] at hC
  try rw [show ((60 : Nat) : Int) = 60 from rfl] at hC
  have HC := hide hC
  clear hC
  go_wp2_with fail
  refine HC.out.mono ?_
  rintro e w5 ⟨rfl, ⟨D5, x1, x2, x3⟩, x4⟩
  have HW5 := hide x1
  have HL5 := hide (HL4.out.trans x4)
  have HF5 := hide (HF4.out.below x4)
  have HZ5 := hide (x2.1.trans HZ4.out)
  have HP5 := hide (permIn_trans _ _ _ _ _ HP4.out (permIn_mono _ _ _ _ _ _ (Nat.zero_le _) (show n ≤ n by omega) (by have := HZ4.out; omega) x2))
  have HD5 := hide (HD4.out.perm x2 (by have := HZ4.out; omega))
  have X2 := hide x2
  have X3 := hide x3
  clear x1 x2 x3 x4 HC
  have B0_5 := hide (B0_4.out.merge B40_4.out (by omega) (by omega) (by have := HZ4.out; omega) X2.out X3.out)
  clear X2 X3
  go_wp2_with fail
  rw [rounds_succ]
  go_wp2
  go_end0
  have hB := B0_5.out.s
  exact ⟨rfl, ⟨D5, HW5.out, HP5.out, hB⟩, HL5.out⟩
set_option maxHeartbeats 4000000 in
set_option maxRecDepth 100000 in
theorem stableD_any (A : Option Addr) (c : Nat) (l : List StarT) (g cap lo gb gl n : Nat) (rest : List Value) (D0 : Array Int) (w0 : World) (hR : Rw w0 g rest D0) (hlo : lo ≤ g) (hF : Finds w0 lo gb gl A c l) (hK : KOk l) (hs : D0.size = n) (hM : n ≤ l.length) (hid : Ids 0 n D0) (hn : 60 ≤ n ∧ n < 61) :
    Calls Try.prog 37 #[.slice (some ⟨g, 0, none⟩) n cap, .int .i64 n, .func (.func 29) #[] #[.pointer (some ⟨gb, 0, none⟩)]] w0 fun e w' => e = .returned (.tuple #[]) ∧ (∃ D', Rw w' g rest D' ∧ PermIn 0 n D0 D' ∧ SortedIn (alt (keyS l)) 0 n D') ∧ Below lo w0 w' := by
  have HK := hide hK
  have HW0 := hide hR
  have HF0 := hide hF
  have HL0 := hide (Below.refl lo w0)
  have HP0 := hide (permIn_refl D0 0 n)
  have HZ0 := hide hs
  have HD0 := hide (show InL l.length D0 from Ids.inL (by rw [hs]; exact hid) (by omega))
  have HI := hide hid
  clear hK hR hF hs hid
  go_enter Try.func37, Try.ntmps37
  have n20 : (20 : Int) ≤ (n : Int) := by omega
  have m20 : (20 : Int) < (n : Int) := by omega
  have n40 : (40 : Int) ≤ (n : Int) := by omega
  have m40 : (40 : Int) < (n : Int) := by omega
  have n60 : (60 : Int) ≤ (n : Int) := by omega
  have m60 : ¬ (60 : Int) < (n : Int) := by omega
  have n80 : ¬ (80 : Int) ≤ (n : Int) := by omega
  have m80 : ¬ (80 : Int) < (n : Int) := by omega
  go_wp2_with fail
  refine wp_loop_rounds 4 ?_
  rw [rounds_succ]
  have hC := insSort_any A c l g cap lo gb gl 0 20 rest D0 w0 HW0.out hlo HF0.out HK.out (by omega) (by have := HZ0.out; omega) (by have := HZ0.out; omega) HD0.out (HI.out.up (show 20 ≤ n by omega))
  rw [HZ0.out] at hC
  try rw [show ((0 : Nat) : Int) = 0 from rfl] at hC
  try rw [show ((20 : Nat) : Int) = 20 from rfl] at hC
  try rw [show ((40 : Nat) : Int) = 40 from rfl] at hC
  try rw [show ((60 : Nat) : Int) = 60 from rfl] at hC
  have HC := hide hC
  clear hC
  go_wp2_with fail
  refine HC.out.mono ?_
  rintro e w1 ⟨rfl, ⟨D1, x1, x2, x3⟩, x4⟩
  have HW1 := hide x1
  have HL1 := hide (HL0.out.trans x4)
  have HF1 := hide (HF0.out.below x4)
  have HZ1 := hide (x2.1.trans HZ0.out)
  have HP1 := hide (permIn_trans _ _ _ _ _ HP0.out (permIn_mono _ _ _ _ _ _ (Nat.zero_le _) (show 20 ≤ n by omega) (by have := HZ0.out; omega) x2))
  have HD1 := hide (HD0.out.perm x2 (by have := HZ0.out; omega))
  have X2 := hide x2
  have X3 := hide x3
  clear x1 x2 x3 x4 HC
  have B0_1 := hide (Blk.ins HI.out (show 20 ≤ n by omega) (by have := HZ0.out; omega) X2.out X3.out)
  have HI2 := hide (show Ids 20 n D1 from (HI.out.sub (show 0 ≤ 20 by omega)).keep X2.out (Nat.le_refl _))
  clear HI
  have HI := hide HI2.out
  clear HI2 X2 X3
  go_wp2_with fail
  rw [rounds_succ]
  have hC := insSort_any A c l g cap lo gb gl 20 40 rest D1 w1 HW1.out hlo HF1.out HK.out (by omega) (by have := HZ1.out; omega) (by have := HZ1.out; omega) HD1.out (HI.out.up (show 40 ≤ n by omega))
  rw [HZ1.out] at hC
  try rw [show ((0 : Nat) : Int) = 0 from rfl] at hC
  try rw [show ((20 : Nat) : Int) = 20 from rfl] at hC
  try rw [show ((40 : Nat) : Int) = 40 from rfl] at hC
  try rw [show ((60 : Nat) : Int) = 60 from rfl] at hC
  have HC := hide hC
  clear hC
  go_wp2_with fail
  refine HC.out.mono ?_
  rintro e w2 ⟨rfl, ⟨D2, x1, x2, x3⟩, x4⟩
  have HW2 := hide x1
  have HL2 := hide (HL1.out.trans x4)
  have HF2 := hide (HF1.out.below x4)
  have HZ2 := hide (x2.1.trans HZ1.out)
  have HP2 := hide (permIn_trans _ _ _ _ _ HP1.out (permIn_mono _ _ _ _ _ _ (Nat.zero_le _) (show 40 ≤ n by omega) (by have := HZ1.out; omega) x2))
  have HD2 := hide (HD1.out.perm x2 (by have := HZ1.out; omega))
  have X2 := hide x2
  have X3 := hide x3
  clear x1 x2 x3 x4 HC
  have B0_2 := hide (B0_1.out.keep X2.out (by omega))
  have B20_2 := hide (Blk.ins HI.out (show 40 ≤ n by omega) (by have := HZ1.out; omega) X2.out X3.out)
  have HI2 := hide (show Ids 40 n D2 from (HI.out.sub (show 20 ≤ 40 by omega)).keep X2.out (Nat.le_refl _))
  clear HI
  have HI := hide HI2.out
  clear HI2 X2 X3
  go_wp2_with fail
  rw [rounds_succ]
  have hC := insSort_any A c l g cap lo gb gl 40 60 rest D2 w2 HW2.out hlo HF2.out HK.out (by omega) (by have := HZ2.out; omega) (by have := HZ2.out; omega) HD2.out (HI.out.up (show 60 ≤ n by omega))
  rw [HZ2.out] at hC
  try rw [show ((0 : Nat) : Int) = 0 from rfl] at hC
  try rw [show ((20 : Nat) : Int) = 20 from rfl] at hC
  try rw [show ((40 : Nat) : Int) = 40 from rfl] at hC
  try rw [show ((60 : Nat) : Int) = 60 from rfl] at hC
  have HC := hide hC
  clear hC
  go_wp2_with fail
  refine HC.out.mono ?_
  rintro e w3 ⟨rfl, ⟨D3, x1, x2, x3⟩, x4⟩
  have HW3 := hide x1
  have HL3 := hide (HL2.out.trans x4)
  have HF3 := hide (HF2.out.below x4)
  have HZ3 := hide (x2.1.trans HZ2.out)
  have HP3 := hide (permIn_trans _ _ _ _ _ HP2.out (permIn_mono _ _ _ _ _ _ (Nat.zero_le _) (show 60 ≤ n by omega) (by have := HZ2.out; omega) x2))
  have HD3 := hide (HD2.out.perm x2 (by have := HZ2.out; omega))
  have X2 := hide x2
  have X3 := hide x3
  clear x1 x2 x3 x4 HC
  have B0_3 := hide (B0_2.out.keep X2.out (by omega))
  have B20_3 := hide (B20_2.out.keep X2.out (by omega))
  have B40_3 := hide (Blk.ins HI.out (show 60 ≤ n by omega) (by have := HZ2.out; omega) X2.out X3.out)
  have HI2 := hide (show Ids 60 n D3 from (HI.out.sub (show 40 ≤ 60 by omega)).keep X2.out (Nat.le_refl _))
  clear HI
  have HI := hide HI2.out
  clear HI2 X2 X3
  go_wp2_with fail
  rw [rounds_succ]
  have hC := insSort_any A c l g cap lo gb gl 60 n rest D3 w3 HW3.out hlo HF3.out HK.out (by omega) (by have := HZ3.out; omega) (by have := HZ3.out; omega) HD3.out (HI.out.up (show n ≤ n by omega))
  rw [HZ3.out] at hC
  try rw [show ((0 : Nat) : Int) = 0 from rfl] at hC
  try rw [show ((20 : Nat) : Int) = 20 from rfl] at hC
  try rw [show ((40 : Nat) : Int) = 40 from rfl] at hC
  try rw [show ((60 : Nat) : Int) = 60 from rfl] at hC
  have HC := hide hC
  clear hC
  go_wp2_with fail
  refine HC.out.mono ?_
  rintro e w4 ⟨rfl, ⟨D4, x1, x2, x3⟩, x4⟩
  have HW4 := hide x1
  have HL4 := hide (HL3.out.trans x4)
  have HF4 := hide (HF3.out.below x4)
  have HZ4 := hide (x2.1.trans HZ3.out)
  have HP4 := hide (permIn_trans _ _ _ _ _ HP3.out (permIn_mono _ _ _ _ _ _ (Nat.zero_le _) (show n ≤ n by omega) (by have := HZ3.out; omega) x2))
  have HD4 := hide (HD3.out.perm x2 (by have := HZ3.out; omega))
  have X2 := hide x2
  have X3 := hide x3
  clear x1 x2 x3 x4 HC
  have B0_4 := hide (B0_3.out.keep X2.out (by omega))
  have B20_4 := hide (B20_3.out.keep X2.out (by omega))
  have B40_4 := hide (B40_3.out.keep X2.out (by omega))
  have B60_4 := hide (Blk.ins HI.out (show n ≤ n by omega) (by have := HZ3.out; omega) X2.out X3.out)
  have HI2 := hide (show Ids n n D4 from (HI.out.sub (show 60 ≤ n by omega)).keep X2.out (Nat.le_refl _))
  clear HI
  have HI := hide HI2.out
  clear HI2 X2 X3
  have B40_4c := hide (show Blk (alt (keyS l)) 40 n D4 from ⟨fun i j h1 h2 h3 => B40_4.out.s i j h1 h2 (by omega), fun p h1 h2 => by have := B40_4.out.v p h1 (by omega); omega⟩)
  go_wp2_with fail
  refine wp_loop_rounds 3 ?_
  rw [rounds_succ]
  go_wp2_with fail
  refine wp_loop_rounds 2 ?_
  rw [rounds_succ]
  have hC := symMerge_any A c l g cap lo gb gl rest hlo HK.out (40 - 0) 0 20 40 D4 w4 (Nat.le_refl _) HW4.out HF4.out (by omega) (by omega) (by have := HZ4.out; omega) (by have := HZ4.out; omega) HD4.out (B0_4.out.two B20_4.out)
  rw [HZ4.out] at hC
  try rw [show ((0 : Nat) : Int) = 0 from rfl] at hC
  try rw [show ((20 : Nat) : Int) = 20 from rfl] at hC
  try rw [show ((40 : Nat) : Int) = 40 from rfl] at hC
  try rw [show ((60 : Nat) : Int) = 60 from rfl] at hC
  have HC := hide hC
  clear hC
  go_wp2_with fail
  refine HC.out.mono ?_
  rintro e w5 ⟨rfl, ⟨D5, x1, x2, x3⟩, x4⟩
  have HW5 := hide x1
  have HL5 := hide (HL4.out.trans x4)
  have HF5 := hide (HF4.out.below x4)
  have HZ5 := hide (x2.1.trans HZ4.out)
  have HP5 := hide (permIn_trans _ _ _ _ _ HP4.out (permIn_mono _ _ _ _ _ _ (Nat.zero_le _) (show 40 ≤ n by omega) (by have := HZ4.out; omega) x2))
  have HD5 := hide (HD4.out.perm x2 (by have := HZ4.out; omega))
  have X2 := hide x2
  have X3 := hide x3
  clear x1 x2 x3 x4 HC
  have B40_5 := hide (B40_4c.out.keep X2.out (by omega))
  have B0_5 := hide (B0_4.out.merge B20_4.out (by omega) (by omega) (by have := HZ4.out; omega) X2.out X3.out)
  clear X2 X3
  go_wp2_with fail
  rw [rounds_succ]
  go_wp2_with fail
  rw [rounds_succ]
  go_wp2_with fail
  refine wp_loop_rounds 1 ?_
  rw [rounds_succ]
  have hC := symMerge_any A c l g cap lo gb gl rest hlo HK.out (n - 0) 0 40 n D5 w5 (Nat.le_refl _) HW5.out HF5.out (by omega) (by omega) (by have := HZ5.out; omega) (by have := HZ5.out; omega) HD5.out (B0_5.out.two B40_5.out)
  rw [HZ5.out] at hC
  try rw [show ((0 : Nat) : Int) = 0 from rfl] at hC
  try rw [show ((20 : Nat) : Int) = 20 from rfl] at hC
  try rw [show ((40 : Nat) : Int) = 40 from rfl] at hC
  try rw [show ((60 : Nat) : Int) = 60 from rfl] at hC
  have HC := hide hC
  clear hC
  go_wp2_with fail
  refine HC.out.mono ?_
  rintro e w6 ⟨rfl, ⟨D6, x1, x2, x3⟩, x4⟩
  have HW6 := hide x1
  have HL6 := hide (HL5.out.trans x4)
  have HF6 := hide (HF5.out.below x4)
  have HZ6 := hide (x2.1.trans HZ5.out)
  have HP6 := hide (permIn_trans _ _ _ _ _ HP5.out (permIn_mono _ _ _ _ _ _ (Nat.zero_le _) (show n ≤ n by omega) (by have := HZ5.out; omega) x2))
  have HD6 := hide (HD5.out.perm x2 (by have := HZ5.out; omega))
  have X2 := hide x2
  have X3 := hide x3
  clear x1 x2 x3 x4 HC
  have B0_6 := hide (B0_5.out.merge B40_5.out (by omega) (by omega) (by have := HZ5.out; omega) X2.out X3.out)
  clear X2 X3
  go_wp2_with fail
  rw [rounds_succ]
  go_wp2
  go_end0
  have hB := B0_6.out.s
  exact ⟨rfl, ⟨D6, HW6.out, HP6.out, hB⟩, HL6.out⟩
theorem ampF_end : True := trivial
end Go.Proofs.Ythgppfbepfgelaa
