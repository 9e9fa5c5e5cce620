/-
  Contracts of the tests whether a record is all right.
-/
import Derived.Test.YthgppfbepfgelaaNum
import Derived.Test.YthgppfbepfgelaaName
import Derived.Test.YthgppfbepfgelaaTy
namespace Go.Proofs.Ythgppfbepfgelaa
open Go.RowKit Pl
set_option linter.unusedVariables false
set_option linter.unusedSimpArgs false
/-- A test's answer known, in a region that only reads. -/
theorem qb {P : Program} {f : FuncId} {args : Array Value} {w : World} {n : Nat} {x b : Bool} (h : x = b) (hc : Calls P f args (w.drewN n) fun e w' => e = .returned (.bool x) ∧ w.drewN n = w') : Calls P f args (w.drewN n) fun e w' => e = .returned (.bool b) ∧ ∃ m, w' = w.drewN m := by
  subst h; exact qsame hc
theorem qb2 {P : Program} {f : FuncId} {args : Array Value} {w : World} {k n : Nat} {x b : Bool} (h : x = b) (hc : Calls P f args (w.drewN (k + n)) fun e w' => e = .returned (.bool x) ∧ w.drewN (k + n) = w') : Calls P f args (w.drewN (k + n)) fun e w' => e = .returned (.bool b) ∧ ∃ m, w' = w.drewN (k + m) := by
  subst h; exact qadd hc
def obsB (s : ByteArray) (n : Int) : Bool := nameB s && inB n (-2000) 2000
def starB (s : ByteArray) (a d b f : Int) : Bool := nameB s && (inB a 0 86399 && inB d (-324000) 324000) && inB b (-2000) 20000 && inB f (-2000) 20000 && decide (b ≤ f)
def estB (t : Int) (s o : ByteArray) (m : Int) : Bool := inB t 0 10000000 && nameB s && nameB o && inB m (-2000) 20000
def obsOk (x : ObsT) : Bool := obsB x.name x.shift
def starOk (x : StarT) : Bool := starB x.name x.asc x.dec x.bri x.fai
def estOk (x : EstT) : Bool := estB x.time x.star x.obs x.mag
set_option maxHeartbeats 1000000 in
theorem impl_isStar_any (s : ByteArray) (a : Int) (d : Int) (b : Int) (f : Int) (w : World) (gs : s.size ≤ maxLen)  : Calls Try.prog 24 #[.agg #[.string s, .int .i64 a, .int .i64 d, .int .i64 b, .int .i64 f]] w fun e w' => e = .returned (.bool (starB s a d b f)) ∧ Below w.heap.size w w' := by
  cases h2 : inB a 0 86399
  · go_enter Try.func24, Try.ntmps24
    go_wp2_with (first | (go_at_call 35; refine (impl_IsName_any _ _ (by assumption)).mono ?_; rintro e w' ⟨rfl, rfl⟩) | (go_at_call 34; refine (in_any _ _ _ _).mono ?_; rintro e w' ⟨rfl, rfl⟩) | (go_at_call 36; refine (impl_ValidMag_any _ _).mono ?_; rintro e w' ⟨rfl, rfl⟩))
    all_goals go_ret
    all_goals exact ⟨ret_bool (by simp [starB, *]), (by repeat (first | exact Below.refl _ _ | assumption | refine Below.drew ?_ | refine below_drewN ?_ _ | refine Below.alloc ?_ (by first | omega | (simp; done) | (simp; omega)) _ | refine Below.setCell ?_ (by first | omega | (simp; done) | (simp; omega)) _ | refine Below.trans ?_ (Below.mono (by assumption) (by first | omega | (simp; done) | (simp; omega)))))⟩
  cases h3 : inB d (-324000) 324000
  · go_enter Try.func24, Try.ntmps24
    go_wp2_with (first | (go_at_call 35; refine (impl_IsName_any _ _ (by assumption)).mono ?_; rintro e w' ⟨rfl, rfl⟩) | (go_at_call 34; refine (in_any _ _ _ _).mono ?_; rintro e w' ⟨rfl, rfl⟩) | (go_at_call 36; refine (impl_ValidMag_any _ _).mono ?_; rintro e w' ⟨rfl, rfl⟩))
    all_goals go_ret
    all_goals exact ⟨ret_bool (by simp [starB, *]), (by repeat (first | exact Below.refl _ _ | assumption | refine Below.drew ?_ | refine below_drewN ?_ _ | refine Below.alloc ?_ (by first | omega | (simp; done) | (simp; omega)) _ | refine Below.setCell ?_ (by first | omega | (simp; done) | (simp; omega)) _ | refine Below.trans ?_ (Below.mono (by assumption) (by first | omega | (simp; done) | (simp; omega)))))⟩
  cases h1 : nameB s
  · go_enter Try.func24, Try.ntmps24
    go_wp2_with (first | (go_at_call 35; refine (impl_IsName_any _ _ (by assumption)).mono ?_; rintro e w' ⟨rfl, rfl⟩) | (go_at_call 34; refine (in_any _ _ _ _).mono ?_; rintro e w' ⟨rfl, rfl⟩) | (go_at_call 36; refine (impl_ValidMag_any _ _).mono ?_; rintro e w' ⟨rfl, rfl⟩))
    all_goals go_ret
    all_goals exact ⟨ret_bool (by simp [starB, *]), (by repeat (first | exact Below.refl _ _ | assumption | refine Below.drew ?_ | refine below_drewN ?_ _ | refine Below.alloc ?_ (by first | omega | (simp; done) | (simp; omega)) _ | refine Below.setCell ?_ (by first | omega | (simp; done) | (simp; omega)) _ | refine Below.trans ?_ (Below.mono (by assumption) (by first | omega | (simp; done) | (simp; omega)))))⟩
  cases h4 : inB b (-2000) 20000
  · go_enter Try.func24, Try.ntmps24
    go_wp2_with (first | (go_at_call 35; refine (impl_IsName_any _ _ (by assumption)).mono ?_; rintro e w' ⟨rfl, rfl⟩) | (go_at_call 34; refine (in_any _ _ _ _).mono ?_; rintro e w' ⟨rfl, rfl⟩) | (go_at_call 36; refine (impl_ValidMag_any _ _).mono ?_; rintro e w' ⟨rfl, rfl⟩))
    all_goals go_ret
    all_goals exact ⟨ret_bool (by simp [starB, *]), (by repeat (first | exact Below.refl _ _ | assumption | refine Below.drew ?_ | refine below_drewN ?_ _ | refine Below.alloc ?_ (by first | omega | (simp; done) | (simp; omega)) _ | refine Below.setCell ?_ (by first | omega | (simp; done) | (simp; omega)) _ | refine Below.trans ?_ (Below.mono (by assumption) (by first | omega | (simp; done) | (simp; omega)))))⟩
  cases h5 : inB f (-2000) 20000
  · go_enter Try.func24, Try.ntmps24
    go_wp2_with (first | (go_at_call 35; refine (impl_IsName_any _ _ (by assumption)).mono ?_; rintro e w' ⟨rfl, rfl⟩) | (go_at_call 34; refine (in_any _ _ _ _).mono ?_; rintro e w' ⟨rfl, rfl⟩) | (go_at_call 36; refine (impl_ValidMag_any _ _).mono ?_; rintro e w' ⟨rfl, rfl⟩))
    all_goals go_ret
    all_goals exact ⟨ret_bool (by simp [starB, *]), (by repeat (first | exact Below.refl _ _ | assumption | refine Below.drew ?_ | refine below_drewN ?_ _ | refine Below.alloc ?_ (by first | omega | (simp; done) | (simp; omega)) _ | refine Below.setCell ?_ (by first | omega | (simp; done) | (simp; omega)) _ | refine Below.trans ?_ (Below.mono (by assumption) (by first | omega | (simp; done) | (simp; omega)))))⟩
  go_enter Try.func24, Try.ntmps24
  go_wp2_with (first | (go_at_call 35; refine (impl_IsName_any _ _ (by assumption)).mono ?_; rintro e w' ⟨rfl, rfl⟩) | (go_at_call 34; refine (in_any _ _ _ _).mono ?_; rintro e w' ⟨rfl, rfl⟩) | (go_at_call 36; refine (impl_ValidMag_any _ _).mono ?_; rintro e w' ⟨rfl, rfl⟩))
  all_goals go_ret
  all_goals exact ⟨ret_bool (by simp [starB, *]), (by repeat (first | exact Below.refl _ _ | assumption | refine Below.drew ?_ | refine below_drewN ?_ _ | refine Below.alloc ?_ (by first | omega | (simp; done) | (simp; omega)) _ | refine Below.setCell ?_ (by first | omega | (simp; done) | (simp; omega)) _ | refine Below.trans ?_ (Below.mono (by assumption) (by first | omega | (simp; done) | (simp; omega)))))⟩
set_option maxRecDepth 100000 in
set_option maxHeartbeats 1000000 in
theorem spec_l04One_any (s : ByteArray) (a : Int) (d : Int) (b : Int) (f : Int) (w : World) (gs : s.size ≤ maxLen) (g o1 : Nat) (k0 : w.cell? ⟨g, o1, none⟩ = some (.string s)) (k1 : w.cell? ⟨g, o1 + 1, none⟩ = some (.int .i64 a)) (k2 : w.cell? ⟨g, o1 + 2, none⟩ = some (.int .i64 d)) (k3 : w.cell? ⟨g, o1 + 3, none⟩ = some (.int .i64 b)) (k4 : w.cell? ⟨g, o1 + 4, none⟩ = some (.int .i64 f)) : Calls Try.prog 22 #[.pointer (some ⟨g, o1, none⟩)] w fun e w' => e = .returned (.bool (starB s a d b f)) ∧ ∃ n, w' = w.drewN n := by
  cases h1 : nameB s
  · go_enter Try.func22, Try.ntmps22
    go_wp2_with fail
    try go_quiet (first | (go_at_call 30; with_reducible first | exact qb h1 (spec_IsName_any _ _ gs) | exact qb2 h1 (spec_IsName_any _ _ gs)))
    try go_wp2
    go_ret
    exact ⟨ret_bool (by simp [starB, *]), by first | exact ⟨0, rfl⟩ | exact ⟨_, rfl⟩⟩
  cases h2 : inB a 0 86399
  · go_enter Try.func22, Try.ntmps22
    go_wp2_with fail
    try go_quiet (first | (go_at_call 30; with_reducible first | exact qb h1 (spec_IsName_any _ _ gs) | exact qb2 h1 (spec_IsName_any _ _ gs)) | (go_at_call 31; with_reducible first | exact qb h2 (spec_l04Ascend_any _ _) | exact qb2 h2 (spec_l04Ascend_any _ _)))
    try go_wp2
    go_ret
    exact ⟨ret_bool (by simp [starB, *]), by first | exact ⟨0, rfl⟩ | exact ⟨_, rfl⟩⟩
  cases h3 : inB d (-324000) 324000
  · go_enter Try.func22, Try.ntmps22
    go_wp2_with fail
    try go_quiet (first | (go_at_call 30; with_reducible first | exact qb h1 (spec_IsName_any _ _ gs) | exact qb2 h1 (spec_IsName_any _ _ gs)) | (go_at_call 31; with_reducible first | exact qb h2 (spec_l04Ascend_any _ _) | exact qb2 h2 (spec_l04Ascend_any _ _)) | (go_at_call 32; with_reducible first | exact qb h3 (spec_l04Decl_any _ _) | exact qb2 h3 (spec_l04Decl_any _ _)))
    try go_wp2
    go_ret
    exact ⟨ret_bool (by simp [starB, *]), by first | exact ⟨0, rfl⟩ | exact ⟨_, rfl⟩⟩
  cases h4 : inB b (-2000) 20000
  · go_enter Try.func22, Try.ntmps22
    go_wp2_with fail
    try go_quiet (first | (go_at_call 30; with_reducible first | exact qb h1 (spec_IsName_any _ _ gs) | exact qb2 h1 (spec_IsName_any _ _ gs)) | (go_at_call 31; with_reducible first | exact qb h2 (spec_l04Ascend_any _ _) | exact qb2 h2 (spec_l04Ascend_any _ _)) | (go_at_call 32; with_reducible first | exact qb h3 (spec_l04Decl_any _ _) | exact qb2 h3 (spec_l04Decl_any _ _)) | (go_at_call 33; with_reducible first | exact qb h4 (spec_l02Mag_any _ _) | exact qb2 h4 (spec_l02Mag_any _ _)))
    try go_wp2
    go_ret
    exact ⟨ret_bool (by simp [starB, *]), by first | exact ⟨0, rfl⟩ | exact ⟨_, rfl⟩⟩
  cases h5 : inB f (-2000) 20000
  · go_enter Try.func22, Try.ntmps22
    go_wp2_with fail
    try go_quiet (first | (go_at_call 30; with_reducible first | exact qb h1 (spec_IsName_any _ _ gs) | exact qb2 h1 (spec_IsName_any _ _ gs)) | (go_at_call 31; with_reducible first | exact qb h2 (spec_l04Ascend_any _ _) | exact qb2 h2 (spec_l04Ascend_any _ _)) | (go_at_call 32; with_reducible first | exact qb h3 (spec_l04Decl_any _ _) | exact qb2 h3 (spec_l04Decl_any _ _)) | (go_at_call 33; with_reducible first | exact qb h4 (spec_l02Mag_any _ _) | exact qb2 h4 (spec_l02Mag_any _ _)) | (go_at_call 33; with_reducible first | exact qb h5 (spec_l02Mag_any _ _) | exact qb2 h5 (spec_l02Mag_any _ _)))
    try go_wp2
    go_ret
    exact ⟨ret_bool (by simp [starB, *]), by first | exact ⟨0, rfl⟩ | exact ⟨_, rfl⟩⟩
  go_enter Try.func22, Try.ntmps22
  go_wp2_with fail
  go_quiet (first | (go_at_call 30; with_reducible first | exact qb h1 (spec_IsName_any _ _ gs) | exact qb2 h1 (spec_IsName_any _ _ gs)) | (go_at_call 31; with_reducible first | exact qb h2 (spec_l04Ascend_any _ _) | exact qb2 h2 (spec_l04Ascend_any _ _)) | (go_at_call 32; with_reducible first | exact qb h3 (spec_l04Decl_any _ _) | exact qb2 h3 (spec_l04Decl_any _ _)) | (go_at_call 33; with_reducible first | exact qb h4 (spec_l02Mag_any _ _) | exact qb2 h4 (spec_l02Mag_any _ _)) | (go_at_call 33; with_reducible first | exact qb h5 (spec_l02Mag_any _ _) | exact qb2 h5 (spec_l02Mag_any _ _)))
  go_wp2
  go_ret
  exact ⟨ret_bool (by simp [starB, *]), by first | exact ⟨0, rfl⟩ | exact ⟨_, rfl⟩⟩
theorem ok_end : True := trivial
end Go.Proofs.Ythgppfbepfgelaa
