/-
  No cell of these rows narrows 'for every input' (looked for: loops, veiled, ifaces, maps, wideKeys, modest, calm, conditions, laid).
  DERIVED. THE GIVEN ROWS OF THIS SEAT. 12 by the template 'for every input the law returns true; each argument reads behind the call as it read before'; 0 by the template 'total and deterministic' (their statements: YtldgelkgobocdaaTotals.lean).
  GIVEN WITH THE SEED: the statements are not yours to turn. If you find one false, say at which input.
  Laid BY PROGRAM, IN A SANDBOX (cutbox-rows.mjs): the forced cells as the released guide's own fill.sh prints them over the translation 010e69035dc7a9d4… (all of the seat's roots in one cut). By AI agents, Wed Nov 11 2026. No macro, syntax, notation, axiom, sorry.
-/
import Derived.Test.YtldgelkgobocdaaChecked
import GoSem.Claim
import GoSem.ClaimJoined
import GoSem.ClaimMapViews
import Derived.JoinedTies
import Derived.KernelRfl
namespace Go.Proofs.Ytldgelkgobocdaa
/- THE CELL 'sum', in the pinned program and in every row, IS THE sha256 OF THE DUMP (.gsa) THAT YtldgelkgobocdaaProg.lean LOADS. Nothing in Lean hashes anything: it is a label: what it is worth is what the hold of that sum in a sandbox is worth. -/
noncomputable def Try.pinned : Pinned := { name := "ytldgelkgobocdaa", sum := "010e69035dc7a9d471fa7b86ce9b319df346959e8c010622a79fa0e0f170e152", checked := Try.checked }
namespace Rows
def none {H : Type} : Left H := { results := [], args := [] }

/-- 'laws.FnExactObserverNamed': WHATEVER THE INPUT: true; the input reads as it did. -/
def fnExactObserverNamedSpec : ChangeSpec := { name := "fnExactObserverNamed", fn := fun _ => fun
  | [d1, d2] => { results := [.lit (.bool true)], args := [d1, d2] }
  | _ => none }
def fnExactObserverNamedRow : OpenClaim := { program := "ytldgelkgobocdaa", sum := "010e69035dc7a9d471fa7b86ce9b319df346959e8c010622a79fa0e0f170e152", func := "loop.example/g01026/laws.FnExactObserverNamed", spec := "fnExactObserverNamed", unfollowed := true, recurses := true, apart := false }
def FnExactObserverNamedSaid : Prop := fnExactObserverNamedRow.holds Try.pinned (OpenSpec.ofChange fnExactObserverNamedSpec)

/-- ITS FALSE NEIGHBOUR: 'it returns false'. Refute it at one input. -/
def fnExactObserverNamedWrong : ChangeSpec := { name := "fnExactObserverNamed", fn := fun _ => fun
  | [d1, d2] => { results := [.lit (.bool false)], args := [d1, d2] }
  | _ => none }
def FnExactObserverNamedWrongFalsely : Prop := fnExactObserverNamedRow.holds Try.pinned (OpenSpec.ofChange fnExactObserverNamedWrong)

/-- 'laws.FnExactStarNamed': WHATEVER THE INPUT: true; the input reads as it did. -/
def fnExactStarNamedSpec : ChangeSpec := { name := "fnExactStarNamed", fn := fun _ => fun
  | [d1, d2] => { results := [.lit (.bool true)], args := [d1, d2] }
  | _ => none }
def fnExactStarNamedRow : OpenClaim := { program := "ytldgelkgobocdaa", sum := "010e69035dc7a9d471fa7b86ce9b319df346959e8c010622a79fa0e0f170e152", func := "loop.example/g01026/laws.FnExactStarNamed", spec := "fnExactStarNamed", unfollowed := true, recurses := true, apart := false }
def FnExactStarNamedSaid : Prop := fnExactStarNamedRow.holds Try.pinned (OpenSpec.ofChange fnExactStarNamedSpec)

/-- ITS FALSE NEIGHBOUR: 'it returns false'. Refute it at one input. -/
def fnExactStarNamedWrong : ChangeSpec := { name := "fnExactStarNamed", fn := fun _ => fun
  | [d1, d2] => { results := [.lit (.bool false)], args := [d1, d2] }
  | _ => none }
def FnExactStarNamedWrongFalsely : Prop := fnExactStarNamedRow.holds Try.pinned (OpenSpec.ofChange fnExactStarNamedWrong)

/-- 'laws.FnExactCorrectMag': WHATEVER THE INPUT: true; the input reads as it did. -/
def fnExactCorrectMagSpec : ChangeSpec := { name := "fnExactCorrectMag", fn := fun _ => fun
  | [d1, d2, d3] => { results := [.lit (.bool true)], args := [d1, d2, d3] }
  | _ => none }
def fnExactCorrectMagRow : OpenClaim := { program := "ytldgelkgobocdaa", sum := "010e69035dc7a9d471fa7b86ce9b319df346959e8c010622a79fa0e0f170e152", func := "loop.example/g01026/laws.FnExactCorrectMag", spec := "fnExactCorrectMag", unfollowed := true, recurses := true, apart := false }
def FnExactCorrectMagSaid : Prop := fnExactCorrectMagRow.holds Try.pinned (OpenSpec.ofChange fnExactCorrectMagSpec)

/-- ITS FALSE NEIGHBOUR: 'it returns false'. Refute it at one input. -/
def fnExactCorrectMagWrong : ChangeSpec := { name := "fnExactCorrectMag", fn := fun _ => fun
  | [d1, d2, d3] => { results := [.lit (.bool false)], args := [d1, d2, d3] }
  | _ => none }
def FnExactCorrectMagWrongFalsely : Prop := fnExactCorrectMagRow.holds Try.pinned (OpenSpec.ofChange fnExactCorrectMagWrong)

/-- 'laws.FnExactVisibleAt': WHATEVER THE INPUT: true; the input reads as it did. -/
def fnExactVisibleAtSpec : ChangeSpec := { name := "fnExactVisibleAt", fn := fun _ => fun
  | [d1, d2] => { results := [.lit (.bool true)], args := [d1, d2] }
  | _ => none }
def fnExactVisibleAtRow : OpenClaim := { program := "ytldgelkgobocdaa", sum := "010e69035dc7a9d471fa7b86ce9b319df346959e8c010622a79fa0e0f170e152", func := "loop.example/g01026/laws.FnExactVisibleAt", spec := "fnExactVisibleAt", unfollowed := true, recurses := true, apart := false }
def FnExactVisibleAtSaid : Prop := fnExactVisibleAtRow.holds Try.pinned (OpenSpec.ofChange fnExactVisibleAtSpec)

/-- ITS FALSE NEIGHBOUR: 'it returns false'. Refute it at one input. -/
def fnExactVisibleAtWrong : ChangeSpec := { name := "fnExactVisibleAt", fn := fun _ => fun
  | [d1, d2] => { results := [.lit (.bool false)], args := [d1, d2] }
  | _ => none }
def FnExactVisibleAtWrongFalsely : Prop := fnExactVisibleAtRow.holds Try.pinned (OpenSpec.ofChange fnExactVisibleAtWrong)

/-- 'laws.FnExactLastOf': WHATEVER THE INPUT: true; the input reads as it did. -/
def fnExactLastOfSpec : ChangeSpec := { name := "fnExactLastOf", fn := fun _ => fun
  | [d1, d2] => { results := [.lit (.bool true)], args := [d1, d2] }
  | _ => none }
def fnExactLastOfRow : OpenClaim := { program := "ytldgelkgobocdaa", sum := "010e69035dc7a9d471fa7b86ce9b319df346959e8c010622a79fa0e0f170e152", func := "loop.example/g01026/laws.FnExactLastOf", spec := "fnExactLastOf", inPlace := ["internal/bytealg.abigen_runtime_cmpstring"], unfollowed := true, recurses := true, apart := false }
def FnExactLastOfSaid : Prop := fnExactLastOfRow.holds Try.pinned (OpenSpec.ofChange fnExactLastOfSpec)

/-- ITS FALSE NEIGHBOUR: 'it returns false'. Refute it at one input. -/
def fnExactLastOfWrong : ChangeSpec := { name := "fnExactLastOf", fn := fun _ => fun
  | [d1, d2] => { results := [.lit (.bool false)], args := [d1, d2] }
  | _ => none }
def FnExactLastOfWrongFalsely : Prop := fnExactLastOfRow.holds Try.pinned (OpenSpec.ofChange fnExactLastOfWrong)

/-- 'laws.FnExactApplyShifts': WHATEVER THE INPUT: true; the input reads as it did. -/
def fnExactApplyShiftsSpec : ChangeSpec := { name := "fnExactApplyShifts", fn := fun _ => fun
  | [d1, d2] => { results := [.lit (.bool true)], args := [d1, d2] }
  | _ => none }
def fnExactApplyShiftsRow : OpenClaim := { program := "ytldgelkgobocdaa", sum := "010e69035dc7a9d471fa7b86ce9b319df346959e8c010622a79fa0e0f170e152", func := "loop.example/g01026/laws.FnExactApplyShifts", spec := "fnExactApplyShifts", unfollowed := true, recurses := true, apart := false }
def FnExactApplyShiftsSaid : Prop := fnExactApplyShiftsRow.holds Try.pinned (OpenSpec.ofChange fnExactApplyShiftsSpec)

/-- ITS FALSE NEIGHBOUR: 'it returns false'. Refute it at one input. -/
def fnExactApplyShiftsWrong : ChangeSpec := { name := "fnExactApplyShifts", fn := fun _ => fun
  | [d1, d2] => { results := [.lit (.bool false)], args := [d1, d2] }
  | _ => none }
def FnExactApplyShiftsWrongFalsely : Prop := fnExactApplyShiftsRow.holds Try.pinned (OpenSpec.ofChange fnExactApplyShiftsWrong)

/-- 'laws.FnExactInBox': WHATEVER THE INPUT: true; the input reads as it did. -/
def fnExactInBoxSpec : ChangeSpec := { name := "fnExactInBox", fn := fun _ => fun
  | [d1, d2] => { results := [.lit (.bool true)], args := [d1, d2] }
  | _ => none }
def fnExactInBoxRow : OpenClaim := { program := "ytldgelkgobocdaa", sum := "010e69035dc7a9d471fa7b86ce9b319df346959e8c010622a79fa0e0f170e152", func := "loop.example/g01026/laws.FnExactInBox", spec := "fnExactInBox", unfollowed := true, recurses := true, apart := false }
def FnExactInBoxSaid : Prop := fnExactInBoxRow.holds Try.pinned (OpenSpec.ofChange fnExactInBoxSpec)

/-- ITS FALSE NEIGHBOUR: 'it returns false'. Refute it at one input. -/
def fnExactInBoxWrong : ChangeSpec := { name := "fnExactInBox", fn := fun _ => fun
  | [d1, d2] => { results := [.lit (.bool false)], args := [d1, d2] }
  | _ => none }
def FnExactInBoxWrongFalsely : Prop := fnExactInBoxRow.holds Try.pinned (OpenSpec.ofChange fnExactInBoxWrong)

/-- 'laws.FnExactOfObserver': WHATEVER THE INPUT: true; the input reads as it did. -/
def fnExactOfObserverSpec : ChangeSpec := { name := "fnExactOfObserver", fn := fun _ => fun
  | [d1, d2] => { results := [.lit (.bool true)], args := [d1, d2] }
  | _ => none }
def fnExactOfObserverRow : OpenClaim := { program := "ytldgelkgobocdaa", sum := "010e69035dc7a9d471fa7b86ce9b319df346959e8c010622a79fa0e0f170e152", func := "loop.example/g01026/laws.FnExactOfObserver", spec := "fnExactOfObserver", inPlace := ["internal/bytealg.abigen_runtime_cmpstring"], unfollowed := true, recurses := true, apart := false }
def FnExactOfObserverSaid : Prop := fnExactOfObserverRow.holds Try.pinned (OpenSpec.ofChange fnExactOfObserverSpec)

/-- ITS FALSE NEIGHBOUR: 'it returns false'. Refute it at one input. -/
def fnExactOfObserverWrong : ChangeSpec := { name := "fnExactOfObserver", fn := fun _ => fun
  | [d1, d2] => { results := [.lit (.bool false)], args := [d1, d2] }
  | _ => none }
def FnExactOfObserverWrongFalsely : Prop := fnExactOfObserverRow.holds Try.pinned (OpenSpec.ofChange fnExactOfObserverWrong)

/-- 'laws.FnExactOfStar': WHATEVER THE INPUT: true; the input reads as it did. -/
def fnExactOfStarSpec : ChangeSpec := { name := "fnExactOfStar", fn := fun _ => fun
  | [d1, d2, d3, d4] => { results := [.lit (.bool true)], args := [d1, d2, d3, d4] }
  | _ => none }
def fnExactOfStarRow : OpenClaim := { program := "ytldgelkgobocdaa", sum := "010e69035dc7a9d471fa7b86ce9b319df346959e8c010622a79fa0e0f170e152", func := "loop.example/g01026/laws.FnExactOfStar", spec := "fnExactOfStar", inPlace := ["internal/bytealg.abigen_runtime_cmpstring"], unfollowed := true, recurses := true, apart := false }
def FnExactOfStarSaid : Prop := fnExactOfStarRow.holds Try.pinned (OpenSpec.ofChange fnExactOfStarSpec)

/-- ITS FALSE NEIGHBOUR: 'it returns false'. Refute it at one input. -/
def fnExactOfStarWrong : ChangeSpec := { name := "fnExactOfStar", fn := fun _ => fun
  | [d1, d2, d3, d4] => { results := [.lit (.bool false)], args := [d1, d2, d3, d4] }
  | _ => none }
def FnExactOfStarWrongFalsely : Prop := fnExactOfStarRow.holds Try.pinned (OpenSpec.ofChange fnExactOfStarWrong)

/-- 'laws.FnExactAddObserver': WHATEVER THE INPUT: true; the input reads as it did. -/
def fnExactAddObserverSpec : ChangeSpec := { name := "fnExactAddObserver", fn := fun _ => fun
  | [d1, d2] => { results := [.lit (.bool true)], args := [d1, d2] }
  | _ => none }
def fnExactAddObserverRow : OpenClaim := { program := "ytldgelkgobocdaa", sum := "010e69035dc7a9d471fa7b86ce9b319df346959e8c010622a79fa0e0f170e152", func := "loop.example/g01026/laws.FnExactAddObserver", spec := "fnExactAddObserver", inPlace := ["slices.overlaps[loop.example/g01026/impl.Observer]"], unfollowed := true, recurses := true, apart := false }
def FnExactAddObserverSaid : Prop := fnExactAddObserverRow.holds Try.pinned (OpenSpec.ofChange fnExactAddObserverSpec)

/-- ITS FALSE NEIGHBOUR: 'it returns false'. Refute it at one input. -/
def fnExactAddObserverWrong : ChangeSpec := { name := "fnExactAddObserver", fn := fun _ => fun
  | [d1, d2] => { results := [.lit (.bool false)], args := [d1, d2] }
  | _ => none }
def FnExactAddObserverWrongFalsely : Prop := fnExactAddObserverRow.holds Try.pinned (OpenSpec.ofChange fnExactAddObserverWrong)

/-- 'laws.FnExactAddStar': WHATEVER THE INPUT: true; the input reads as it did. -/
def fnExactAddStarSpec : ChangeSpec := { name := "fnExactAddStar", fn := fun _ => fun
  | [d1, d2] => { results := [.lit (.bool true)], args := [d1, d2] }
  | _ => none }
def fnExactAddStarRow : OpenClaim := { program := "ytldgelkgobocdaa", sum := "010e69035dc7a9d471fa7b86ce9b319df346959e8c010622a79fa0e0f170e152", func := "loop.example/g01026/laws.FnExactAddStar", spec := "fnExactAddStar", inPlace := ["slices.overlaps[loop.example/g01026/impl.Star]"], unfollowed := true, recurses := true, apart := false }
def FnExactAddStarSaid : Prop := fnExactAddStarRow.holds Try.pinned (OpenSpec.ofChange fnExactAddStarSpec)

/-- ITS FALSE NEIGHBOUR: 'it returns false'. Refute it at one input. -/
def fnExactAddStarWrong : ChangeSpec := { name := "fnExactAddStar", fn := fun _ => fun
  | [d1, d2] => { results := [.lit (.bool false)], args := [d1, d2] }
  | _ => none }
def FnExactAddStarWrongFalsely : Prop := fnExactAddStarRow.holds Try.pinned (OpenSpec.ofChange fnExactAddStarWrong)

/-- 'laws.FnExactByAmplitude': WHATEVER THE INPUT: true; the input reads as it did. -/
def fnExactByAmplitudeSpec : ChangeSpec := { name := "fnExactByAmplitude", fn := fun _ => fun
  | [d] => { results := [.lit (.bool true)], args := [d] }
  | _ => none }
def fnExactByAmplitudeRow : OpenClaim := { program := "ytldgelkgobocdaa", sum := "010e69035dc7a9d471fa7b86ce9b319df346959e8c010622a79fa0e0f170e152", func := "loop.example/g01026/laws.FnExactByAmplitude", spec := "fnExactByAmplitude", unfollowed := true, recurses := true, apart := false }
def FnExactByAmplitudeSaid : Prop := fnExactByAmplitudeRow.holds Try.pinned (OpenSpec.ofChange fnExactByAmplitudeSpec)

/-- ITS FALSE NEIGHBOUR: 'it returns false'. Refute it at one input. -/
def fnExactByAmplitudeWrong : ChangeSpec := { name := "fnExactByAmplitude", fn := fun _ => fun
  | [d] => { results := [.lit (.bool false)], args := [d] }
  | _ => none }
def FnExactByAmplitudeWrongFalsely : Prop := fnExactByAmplitudeRow.holds Try.pinned (OpenSpec.ofChange fnExactByAmplitudeWrong)

/- THE SECOND FORM. 'bulk': how many values and letters a reading holds, each counted each time it is reached (what is shared counts as often as it is met; a slice's spare places count too). A statement '..UptoSaid' is the law's where the arguments, and the package variables that the reading takes, are together of bulk at most 1048576: NARROWER than '..Said'. Prove '..Said' where nothing that the law and all that it calls make is longer than what came in: it says more and counts as full. Else prove '..UptoSaid'. A law counts once. -/
mutual
def uptoBulk {H : Type} : DataW H → Nat
  | .lit (.string bytes) => bytes.length + 1
  | .lit _ => 1
  | .nil => 1
  | .ptr d => uptoBulk d + 1
  | .slice elems spare => uptoBulkAll elems + uptoBulkAll spare + 1
  | .agg parts => uptoBulkAll parts + 1
  | .iface _ d => uptoBulk d + 1
  | .map entries => uptoBulkEntries entries + 1
  | .held _ => 1
def uptoBulkAll {H : Type} : List (DataW H) → Nat
  | [] => 0
  | d :: r => uptoBulk d + uptoBulkAll r
def uptoBulkEntries {H : Type} : List (Lit × DataW H) → Nat
  | [] => 0
  | x :: r => uptoBulkEntry x + uptoBulkEntries r
def uptoBulkEntry {H : Type} : Lit × DataW H → Nat
  | (.string bytes, d) => bytes.length + uptoBulk d + 1
  | (_, d) => uptoBulk d + 1
 end
def uptoSmall : (H : Type) → List (DataW H) → Bool := fun _ ds => decide (uptoBulkAll ds ≤ 1048576)
def OpenSpec.upto (s : _root_.Go.ChangeSpec) : _root_.Go.OpenSpec := { _root_.Go.OpenSpec.ofChange s with cond := some uptoSmall }

/-- 'laws.FnExactObserverNamed', WHERE WHAT IT READS IS OF BULK AT MOST 1048576: true; the input reads as it did. -/
def fnExactObserverNamedUptoRow : OpenClaim := { program := "ytldgelkgobocdaa", sum := "010e69035dc7a9d471fa7b86ce9b319df346959e8c010622a79fa0e0f170e152", func := "loop.example/g01026/laws.FnExactObserverNamed", spec := "fnExactObserverNamed", unfollowed := true, recurses := true, apart := false, narrowed := true }
def FnExactObserverNamedUptoSaid : Prop := fnExactObserverNamedUptoRow.holds Try.pinned (OpenSpec.upto fnExactObserverNamedSpec)

/-- 'laws.FnExactStarNamed', WHERE WHAT IT READS IS OF BULK AT MOST 1048576: true; the input reads as it did. -/
def fnExactStarNamedUptoRow : OpenClaim := { program := "ytldgelkgobocdaa", sum := "010e69035dc7a9d471fa7b86ce9b319df346959e8c010622a79fa0e0f170e152", func := "loop.example/g01026/laws.FnExactStarNamed", spec := "fnExactStarNamed", unfollowed := true, recurses := true, apart := false, narrowed := true }
def FnExactStarNamedUptoSaid : Prop := fnExactStarNamedUptoRow.holds Try.pinned (OpenSpec.upto fnExactStarNamedSpec)

/-- 'laws.FnExactCorrectMag', WHERE WHAT IT READS IS OF BULK AT MOST 1048576: true; the input reads as it did. -/
def fnExactCorrectMagUptoRow : OpenClaim := { program := "ytldgelkgobocdaa", sum := "010e69035dc7a9d471fa7b86ce9b319df346959e8c010622a79fa0e0f170e152", func := "loop.example/g01026/laws.FnExactCorrectMag", spec := "fnExactCorrectMag", unfollowed := true, recurses := true, apart := false, narrowed := true }
def FnExactCorrectMagUptoSaid : Prop := fnExactCorrectMagUptoRow.holds Try.pinned (OpenSpec.upto fnExactCorrectMagSpec)

/-- 'laws.FnExactVisibleAt', WHERE WHAT IT READS IS OF BULK AT MOST 1048576: true; the input reads as it did. -/
def fnExactVisibleAtUptoRow : OpenClaim := { program := "ytldgelkgobocdaa", sum := "010e69035dc7a9d471fa7b86ce9b319df346959e8c010622a79fa0e0f170e152", func := "loop.example/g01026/laws.FnExactVisibleAt", spec := "fnExactVisibleAt", unfollowed := true, recurses := true, apart := false, narrowed := true }
def FnExactVisibleAtUptoSaid : Prop := fnExactVisibleAtUptoRow.holds Try.pinned (OpenSpec.upto fnExactVisibleAtSpec)

/-- 'laws.FnExactLastOf', WHERE WHAT IT READS IS OF BULK AT MOST 1048576: true; the input reads as it did. -/
def fnExactLastOfUptoRow : OpenClaim := { program := "ytldgelkgobocdaa", sum := "010e69035dc7a9d471fa7b86ce9b319df346959e8c010622a79fa0e0f170e152", func := "loop.example/g01026/laws.FnExactLastOf", spec := "fnExactLastOf", inPlace := ["internal/bytealg.abigen_runtime_cmpstring"], unfollowed := true, recurses := true, apart := false, narrowed := true }
def FnExactLastOfUptoSaid : Prop := fnExactLastOfUptoRow.holds Try.pinned (OpenSpec.upto fnExactLastOfSpec)

/-- 'laws.FnExactApplyShifts', WHERE WHAT IT READS IS OF BULK AT MOST 1048576: true; the input reads as it did. -/
def fnExactApplyShiftsUptoRow : OpenClaim := { program := "ytldgelkgobocdaa", sum := "010e69035dc7a9d471fa7b86ce9b319df346959e8c010622a79fa0e0f170e152", func := "loop.example/g01026/laws.FnExactApplyShifts", spec := "fnExactApplyShifts", unfollowed := true, recurses := true, apart := false, narrowed := true }
def FnExactApplyShiftsUptoSaid : Prop := fnExactApplyShiftsUptoRow.holds Try.pinned (OpenSpec.upto fnExactApplyShiftsSpec)

/-- 'laws.FnExactInBox', WHERE WHAT IT READS IS OF BULK AT MOST 1048576: true; the input reads as it did. -/
def fnExactInBoxUptoRow : OpenClaim := { program := "ytldgelkgobocdaa", sum := "010e69035dc7a9d471fa7b86ce9b319df346959e8c010622a79fa0e0f170e152", func := "loop.example/g01026/laws.FnExactInBox", spec := "fnExactInBox", unfollowed := true, recurses := true, apart := false, narrowed := true }
def FnExactInBoxUptoSaid : Prop := fnExactInBoxUptoRow.holds Try.pinned (OpenSpec.upto fnExactInBoxSpec)

/-- 'laws.FnExactOfObserver', WHERE WHAT IT READS IS OF BULK AT MOST 1048576: true; the input reads as it did. -/
def fnExactOfObserverUptoRow : OpenClaim := { program := "ytldgelkgobocdaa", sum := "010e69035dc7a9d471fa7b86ce9b319df346959e8c010622a79fa0e0f170e152", func := "loop.example/g01026/laws.FnExactOfObserver", spec := "fnExactOfObserver", inPlace := ["internal/bytealg.abigen_runtime_cmpstring"], unfollowed := true, recurses := true, apart := false, narrowed := true }
def FnExactOfObserverUptoSaid : Prop := fnExactOfObserverUptoRow.holds Try.pinned (OpenSpec.upto fnExactOfObserverSpec)

/-- 'laws.FnExactOfStar', WHERE WHAT IT READS IS OF BULK AT MOST 1048576: true; the input reads as it did. -/
def fnExactOfStarUptoRow : OpenClaim := { program := "ytldgelkgobocdaa", sum := "010e69035dc7a9d471fa7b86ce9b319df346959e8c010622a79fa0e0f170e152", func := "loop.example/g01026/laws.FnExactOfStar", spec := "fnExactOfStar", inPlace := ["internal/bytealg.abigen_runtime_cmpstring"], unfollowed := true, recurses := true, apart := false, narrowed := true }
def FnExactOfStarUptoSaid : Prop := fnExactOfStarUptoRow.holds Try.pinned (OpenSpec.upto fnExactOfStarSpec)

/-- 'laws.FnExactAddObserver', WHERE WHAT IT READS IS OF BULK AT MOST 1048576: true; the input reads as it did. -/
def fnExactAddObserverUptoRow : OpenClaim := { program := "ytldgelkgobocdaa", sum := "010e69035dc7a9d471fa7b86ce9b319df346959e8c010622a79fa0e0f170e152", func := "loop.example/g01026/laws.FnExactAddObserver", spec := "fnExactAddObserver", inPlace := ["slices.overlaps[loop.example/g01026/impl.Observer]"], unfollowed := true, recurses := true, apart := false, narrowed := true }
def FnExactAddObserverUptoSaid : Prop := fnExactAddObserverUptoRow.holds Try.pinned (OpenSpec.upto fnExactAddObserverSpec)

/-- 'laws.FnExactAddStar', WHERE WHAT IT READS IS OF BULK AT MOST 1048576: true; the input reads as it did. -/
def fnExactAddStarUptoRow : OpenClaim := { program := "ytldgelkgobocdaa", sum := "010e69035dc7a9d471fa7b86ce9b319df346959e8c010622a79fa0e0f170e152", func := "loop.example/g01026/laws.FnExactAddStar", spec := "fnExactAddStar", inPlace := ["slices.overlaps[loop.example/g01026/impl.Star]"], unfollowed := true, recurses := true, apart := false, narrowed := true }
def FnExactAddStarUptoSaid : Prop := fnExactAddStarUptoRow.holds Try.pinned (OpenSpec.upto fnExactAddStarSpec)

/-- 'laws.FnExactByAmplitude', WHERE WHAT IT READS IS OF BULK AT MOST 1048576: true; the input reads as it did. -/
def fnExactByAmplitudeUptoRow : OpenClaim := { program := "ytldgelkgobocdaa", sum := "010e69035dc7a9d471fa7b86ce9b319df346959e8c010622a79fa0e0f170e152", func := "loop.example/g01026/laws.FnExactByAmplitude", spec := "fnExactByAmplitude", unfollowed := true, recurses := true, apart := false, narrowed := true }
def FnExactByAmplitudeUptoSaid : Prop := fnExactByAmplitudeUptoRow.holds Try.pinned (OpenSpec.upto fnExactByAmplitudeSpec)

end Rows
end Go.Proofs.Ytldgelkgobocdaa
