/-
  No cell of these rows narrows 'for every input' (looked for: loops, veiled, ifaces, maps, wideKeys, modest, calm, conditions, laid).
  DERIVED. THE GIVEN ROWS OF THIS SEAT. 12 by the template 'for every input the law returns true; each argument reads behind the call as it read before'; 0 by the template 'total and deterministic' (their statements: YtjflebgaemgeeaaTotals.lean).
  GIVEN WITH THE SEED: the statements are not yours to turn. If you find one false, say at which input.
  Laid BY PROGRAM, IN A SANDBOX (cutbox-rows.mjs): the forced cells as the released guide's own fill.sh prints them over the translation 753d792e1ed0c70c… (all of the seat's roots in one cut). By AI agents, Wed Nov 11 2026. No macro, syntax, notation, axiom, sorry.
-/
import Derived.Test.YtjflebgaemgeeaaChecked
import GoSem.Claim
import GoSem.ClaimJoined
import GoSem.ClaimMapViews
import Derived.JoinedTies
import Derived.KernelRfl
namespace Go.Proofs.Ytjflebgaemgeeaa
/- THE CELL 'sum', in the pinned program and in every row, IS THE sha256 OF THE DUMP (.gsa) THAT YtjflebgaemgeeaaProg.lean LOADS. Nothing in Lean hashes anything: it is a label: what it is worth is what the hold of that sum in a sandbox is worth. -/
noncomputable def Try.pinned : Pinned := { name := "ytjflebgaemgeeaa", sum := "753d792e1ed0c70c260078b944dfc6a7e2fc3a275c11fa371208c0697c8816f8", checked := Try.checked }
namespace Rows
def none {H : Type} : Left H := { results := [], args := [] }

/-- 'laws.FnExactValidCommons': WHATEVER THE INPUT: true; the input reads as it did. -/
def fnExactValidCommonsSpec : ChangeSpec := { name := "fnExactValidCommons", fn := fun _ => fun
  | [d1, d2] => { results := [.lit (.bool true)], args := [d1, d2] }
  | _ => none }
def fnExactValidCommonsRow : OpenClaim := { program := "ytjflebgaemgeeaa", sum := "753d792e1ed0c70c260078b944dfc6a7e2fc3a275c11fa371208c0697c8816f8", func := "loop.example/g01026/laws.FnExactValidCommons", spec := "fnExactValidCommons", apart := false }
def FnExactValidCommonsSaid : Prop := fnExactValidCommonsRow.holds Try.pinned (OpenSpec.ofChange fnExactValidCommonsSpec)

/-- ITS FALSE NEIGHBOUR: 'it returns false'. Refute it at one input. -/
def fnExactValidCommonsWrong : ChangeSpec := { name := "fnExactValidCommons", fn := fun _ => fun
  | [d1, d2] => { results := [.lit (.bool false)], args := [d1, d2] }
  | _ => none }
def FnExactValidCommonsWrongFalsely : Prop := fnExactValidCommonsRow.holds Try.pinned (OpenSpec.ofChange fnExactValidCommonsWrong)

/-- 'laws.FnExactSpreadLeft': WHATEVER THE INPUT: true; the input reads as it did. -/
def fnExactSpreadLeftSpec : ChangeSpec := { name := "fnExactSpreadLeft", fn := fun _ => fun
  | [d1, d2, d3] => { results := [.lit (.bool true)], args := [d1, d2, d3] }
  | _ => none }
def fnExactSpreadLeftRow : OpenClaim := { program := "ytjflebgaemgeeaa", sum := "753d792e1ed0c70c260078b944dfc6a7e2fc3a275c11fa371208c0697c8816f8", func := "loop.example/g01026/laws.FnExactSpreadLeft", spec := "fnExactSpreadLeft", unfollowed := true, recurses := true, apart := false }
def FnExactSpreadLeftSaid : Prop := fnExactSpreadLeftRow.holds Try.pinned (OpenSpec.ofChange fnExactSpreadLeftSpec)

/-- ITS FALSE NEIGHBOUR: 'it returns false'. Refute it at one input. -/
def fnExactSpreadLeftWrong : ChangeSpec := { name := "fnExactSpreadLeft", fn := fun _ => fun
  | [d1, d2, d3] => { results := [.lit (.bool false)], args := [d1, d2, d3] }
  | _ => none }
def FnExactSpreadLeftWrongFalsely : Prop := fnExactSpreadLeftRow.holds Try.pinned (OpenSpec.ofChange fnExactSpreadLeftWrong)

/-- 'laws.FnExactEnclosingPair': WHATEVER THE INPUT: true; the input reads as it did. -/
def fnExactEnclosingPairSpec : ChangeSpec := { name := "fnExactEnclosingPair", fn := fun _ => fun
  | [d1, d2] => { results := [.lit (.bool true)], args := [d1, d2] }
  | _ => none }
def fnExactEnclosingPairRow : OpenClaim := { program := "ytjflebgaemgeeaa", sum := "753d792e1ed0c70c260078b944dfc6a7e2fc3a275c11fa371208c0697c8816f8", func := "loop.example/g01026/laws.FnExactEnclosingPair", spec := "fnExactEnclosingPair", unfollowed := true, recurses := true, apart := false }
def FnExactEnclosingPairSaid : Prop := fnExactEnclosingPairRow.holds Try.pinned (OpenSpec.ofChange fnExactEnclosingPairSpec)

/-- ITS FALSE NEIGHBOUR: 'it returns false'. Refute it at one input. -/
def fnExactEnclosingPairWrong : ChangeSpec := { name := "fnExactEnclosingPair", fn := fun _ => fun
  | [d1, d2] => { results := [.lit (.bool false)], args := [d1, d2] }
  | _ => none }
def FnExactEnclosingPairWrongFalsely : Prop := fnExactEnclosingPairRow.holds Try.pinned (OpenSpec.ofChange fnExactEnclosingPairWrong)

/-- 'laws.FnExactRangeOfMags': WHATEVER THE INPUT: true; the input reads as it did. -/
def fnExactRangeOfMagsSpec : ChangeSpec := { name := "fnExactRangeOfMags", fn := fun _ => fun
  | [d] => { results := [.lit (.bool true)], args := [d] }
  | _ => none }
def fnExactRangeOfMagsRow : OpenClaim := { program := "ytjflebgaemgeeaa", sum := "753d792e1ed0c70c260078b944dfc6a7e2fc3a275c11fa371208c0697c8816f8", func := "loop.example/g01026/laws.FnExactRangeOfMags", spec := "fnExactRangeOfMags", unfollowed := true, recurses := true, apart := false }
def FnExactRangeOfMagsSaid : Prop := fnExactRangeOfMagsRow.holds Try.pinned (OpenSpec.ofChange fnExactRangeOfMagsSpec)

/-- ITS FALSE NEIGHBOUR: 'it returns false'. Refute it at one input. -/
def fnExactRangeOfMagsWrong : ChangeSpec := { name := "fnExactRangeOfMags", fn := fun _ => fun
  | [d] => { results := [.lit (.bool false)], args := [d] }
  | _ => none }
def FnExactRangeOfMagsWrongFalsely : Prop := fnExactRangeOfMagsRow.holds Try.pinned (OpenSpec.ofChange fnExactRangeOfMagsWrong)

/-- 'laws.FnExactMeanMag': WHATEVER THE INPUT: true; the input reads as it did. -/
def fnExactMeanMagSpec : ChangeSpec := { name := "fnExactMeanMag", fn := fun _ => fun
  | [d] => { results := [.lit (.bool true)], args := [d] }
  | _ => none }
def fnExactMeanMagRow : OpenClaim := { program := "ytjflebgaemgeeaa", sum := "753d792e1ed0c70c260078b944dfc6a7e2fc3a275c11fa371208c0697c8816f8", func := "loop.example/g01026/laws.FnExactMeanMag", spec := "fnExactMeanMag", unfollowed := true, recurses := true, apart := false }
def FnExactMeanMagSaid : Prop := fnExactMeanMagRow.holds Try.pinned (OpenSpec.ofChange fnExactMeanMagSpec)

/-- ITS FALSE NEIGHBOUR: 'it returns false'. Refute it at one input. -/
def fnExactMeanMagWrong : ChangeSpec := { name := "fnExactMeanMag", fn := fun _ => fun
  | [d] => { results := [.lit (.bool false)], args := [d] }
  | _ => none }
def FnExactMeanMagWrongFalsely : Prop := fnExactMeanMagRow.holds Try.pinned (OpenSpec.ofChange fnExactMeanMagWrong)

/-- 'laws.FnExactSameObservers': WHATEVER THE INPUT: true; the input reads as it did. -/
def fnExactSameObserversSpec : ChangeSpec := { name := "fnExactSameObservers", fn := fun _ => fun
  | [d1, d2] => { results := [.lit (.bool true)], args := [d1, d2] }
  | _ => none }
def fnExactSameObserversRow : OpenClaim := { program := "ytjflebgaemgeeaa", sum := "753d792e1ed0c70c260078b944dfc6a7e2fc3a275c11fa371208c0697c8816f8", func := "loop.example/g01026/laws.FnExactSameObservers", spec := "fnExactSameObservers", apart := false }
def FnExactSameObserversSaid : Prop := fnExactSameObserversRow.holds Try.pinned (OpenSpec.ofChange fnExactSameObserversSpec)

/-- ITS FALSE NEIGHBOUR: 'it returns false'. Refute it at one input. -/
def fnExactSameObserversWrong : ChangeSpec := { name := "fnExactSameObservers", fn := fun _ => fun
  | [d1, d2] => { results := [.lit (.bool false)], args := [d1, d2] }
  | _ => none }
def FnExactSameObserversWrongFalsely : Prop := fnExactSameObserversRow.holds Try.pinned (OpenSpec.ofChange fnExactSameObserversWrong)

/-- 'laws.FnExactSameStars': WHATEVER THE INPUT: true; the input reads as it did. -/
def fnExactSameStarsSpec : ChangeSpec := { name := "fnExactSameStars", fn := fun _ => fun
  | [d1, d2] => { results := [.lit (.bool true)], args := [d1, d2] }
  | _ => none }
def fnExactSameStarsRow : OpenClaim := { program := "ytjflebgaemgeeaa", sum := "753d792e1ed0c70c260078b944dfc6a7e2fc3a275c11fa371208c0697c8816f8", func := "loop.example/g01026/laws.FnExactSameStars", spec := "fnExactSameStars", apart := false }
def FnExactSameStarsSaid : Prop := fnExactSameStarsRow.holds Try.pinned (OpenSpec.ofChange fnExactSameStarsSpec)

/-- ITS FALSE NEIGHBOUR: 'it returns false'. Refute it at one input. -/
def fnExactSameStarsWrong : ChangeSpec := { name := "fnExactSameStars", fn := fun _ => fun
  | [d1, d2] => { results := [.lit (.bool false)], args := [d1, d2] }
  | _ => none }
def FnExactSameStarsWrongFalsely : Prop := fnExactSameStarsRow.holds Try.pinned (OpenSpec.ofChange fnExactSameStarsWrong)

/-- 'laws.FnExactSameEstimates': WHATEVER THE INPUT: true; the input reads as it did. -/
def fnExactSameEstimatesSpec : ChangeSpec := { name := "fnExactSameEstimates", fn := fun _ => fun
  | [d1, d2] => { results := [.lit (.bool true)], args := [d1, d2] }
  | _ => none }
def fnExactSameEstimatesRow : OpenClaim := { program := "ytjflebgaemgeeaa", sum := "753d792e1ed0c70c260078b944dfc6a7e2fc3a275c11fa371208c0697c8816f8", func := "loop.example/g01026/laws.FnExactSameEstimates", spec := "fnExactSameEstimates", apart := false }
def FnExactSameEstimatesSaid : Prop := fnExactSameEstimatesRow.holds Try.pinned (OpenSpec.ofChange fnExactSameEstimatesSpec)

/-- ITS FALSE NEIGHBOUR: 'it returns false'. Refute it at one input. -/
def fnExactSameEstimatesWrong : ChangeSpec := { name := "fnExactSameEstimates", fn := fun _ => fun
  | [d1, d2] => { results := [.lit (.bool false)], args := [d1, d2] }
  | _ => none }
def FnExactSameEstimatesWrongFalsely : Prop := fnExactSameEstimatesRow.holds Try.pinned (OpenSpec.ofChange fnExactSameEstimatesWrong)

/-- 'laws.FnExactBoxAround': WHATEVER THE INPUT: true; the input reads as it did. -/
def fnExactBoxAroundSpec : ChangeSpec := { name := "fnExactBoxAround", fn := fun _ => fun
  | [d1, d2] => { results := [.lit (.bool true)], args := [d1, d2] }
  | _ => none }
def fnExactBoxAroundRow : OpenClaim := { program := "ytjflebgaemgeeaa", sum := "753d792e1ed0c70c260078b944dfc6a7e2fc3a275c11fa371208c0697c8816f8", func := "loop.example/g01026/laws.FnExactBoxAround", spec := "fnExactBoxAround", apart := false }
def FnExactBoxAroundSaid : Prop := fnExactBoxAroundRow.holds Try.pinned (OpenSpec.ofChange fnExactBoxAroundSpec)

/-- ITS FALSE NEIGHBOUR: 'it returns false'. Refute it at one input. -/
def fnExactBoxAroundWrong : ChangeSpec := { name := "fnExactBoxAround", fn := fun _ => fun
  | [d1, d2] => { results := [.lit (.bool false)], args := [d1, d2] }
  | _ => none }
def FnExactBoxAroundWrongFalsely : Prop := fnExactBoxAroundRow.holds Try.pinned (OpenSpec.ofChange fnExactBoxAroundWrong)

/-- 'laws.FnExactValidObservers': WHATEVER THE INPUT: true; the input reads as it did. -/
def fnExactValidObserversSpec : ChangeSpec := { name := "fnExactValidObservers", fn := fun _ => fun
  | [d] => { results := [.lit (.bool true)], args := [d] }
  | _ => none }
def fnExactValidObserversRow : OpenClaim := { program := "ytjflebgaemgeeaa", sum := "753d792e1ed0c70c260078b944dfc6a7e2fc3a275c11fa371208c0697c8816f8", func := "loop.example/g01026/laws.FnExactValidObservers", spec := "fnExactValidObservers", unfollowed := true, recurses := true, apart := false }
def FnExactValidObserversSaid : Prop := fnExactValidObserversRow.holds Try.pinned (OpenSpec.ofChange fnExactValidObserversSpec)

/-- ITS FALSE NEIGHBOUR: 'it returns false'. Refute it at one input. -/
def fnExactValidObserversWrong : ChangeSpec := { name := "fnExactValidObservers", fn := fun _ => fun
  | [d] => { results := [.lit (.bool false)], args := [d] }
  | _ => none }
def FnExactValidObserversWrongFalsely : Prop := fnExactValidObserversRow.holds Try.pinned (OpenSpec.ofChange fnExactValidObserversWrong)

/-- 'laws.FnExactValidStars': WHATEVER THE INPUT: true; the input reads as it did. -/
def fnExactValidStarsSpec : ChangeSpec := { name := "fnExactValidStars", fn := fun _ => fun
  | [d] => { results := [.lit (.bool true)], args := [d] }
  | _ => none }
def fnExactValidStarsRow : OpenClaim := { program := "ytjflebgaemgeeaa", sum := "753d792e1ed0c70c260078b944dfc6a7e2fc3a275c11fa371208c0697c8816f8", func := "loop.example/g01026/laws.FnExactValidStars", spec := "fnExactValidStars", unfollowed := true, recurses := true, apart := false }
def FnExactValidStarsSaid : Prop := fnExactValidStarsRow.holds Try.pinned (OpenSpec.ofChange fnExactValidStarsSpec)

/-- ITS FALSE NEIGHBOUR: 'it returns false'. Refute it at one input. -/
def fnExactValidStarsWrong : ChangeSpec := { name := "fnExactValidStars", fn := fun _ => fun
  | [d] => { results := [.lit (.bool false)], args := [d] }
  | _ => none }
def FnExactValidStarsWrongFalsely : Prop := fnExactValidStarsRow.holds Try.pinned (OpenSpec.ofChange fnExactValidStarsWrong)

/-- 'laws.FnExactValidEstimates': WHATEVER THE INPUT: true; the input reads as it did. -/
def fnExactValidEstimatesSpec : ChangeSpec := { name := "fnExactValidEstimates", fn := fun _ => fun
  | [d] => { results := [.lit (.bool true)], args := [d] }
  | _ => none }
def fnExactValidEstimatesRow : OpenClaim := { program := "ytjflebgaemgeeaa", sum := "753d792e1ed0c70c260078b944dfc6a7e2fc3a275c11fa371208c0697c8816f8", func := "loop.example/g01026/laws.FnExactValidEstimates", spec := "fnExactValidEstimates", inPlace := ["internal/bytealg.abigen_runtime_cmpstring"], apart := false }
def FnExactValidEstimatesSaid : Prop := fnExactValidEstimatesRow.holds Try.pinned (OpenSpec.ofChange fnExactValidEstimatesSpec)

/-- ITS FALSE NEIGHBOUR: 'it returns false'. Refute it at one input. -/
def fnExactValidEstimatesWrong : ChangeSpec := { name := "fnExactValidEstimates", fn := fun _ => fun
  | [d] => { results := [.lit (.bool false)], args := [d] }
  | _ => none }
def FnExactValidEstimatesWrongFalsely : Prop := fnExactValidEstimatesRow.holds Try.pinned (OpenSpec.ofChange fnExactValidEstimatesWrong)

/- THE SECOND FORM. 'bulk': how many values and letters a reading holds, each counted each time it is reached (what is shared counts as often as it is met; a slice's spare places count too). A statement '..UptoSaid' is the law's where the arguments, and the package variables that the reading takes, are together of bulk at most 1048576: NARROWER than '..Said'. Prove '..Said' where nothing that the law and all that it calls make is longer than what came in: it says more and counts as full. Else prove '..UptoSaid'. A law counts once. -/
mutual
def uptoBulk {H : Type} : DataW H → Nat
  | .lit (.string bytes) => bytes.length + 1
  | .lit _ => 1
  | .nil => 1
  | .ptr d => uptoBulk d + 1
  | .slice elems spare => uptoBulkAll elems + uptoBulkAll spare + 1
  | .agg parts => uptoBulkAll parts + 1
  | .iface _ d => uptoBulk d + 1
  | .map entries => uptoBulkEntries entries + 1
  | .held _ => 1
def uptoBulkAll {H : Type} : List (DataW H) → Nat
  | [] => 0
  | d :: r => uptoBulk d + uptoBulkAll r
def uptoBulkEntries {H : Type} : List (Lit × DataW H) → Nat
  | [] => 0
  | x :: r => uptoBulkEntry x + uptoBulkEntries r
def uptoBulkEntry {H : Type} : Lit × DataW H → Nat
  | (.string bytes, d) => bytes.length + uptoBulk d + 1
  | (_, d) => uptoBulk d + 1
 end
def uptoSmall : (H : Type) → List (DataW H) → Bool := fun _ ds => decide (uptoBulkAll ds ≤ 1048576)
def OpenSpec.upto (s : _root_.Go.ChangeSpec) : _root_.Go.OpenSpec := { _root_.Go.OpenSpec.ofChange s with cond := some uptoSmall }

/-- 'laws.FnExactValidCommons', WHERE WHAT IT READS IS OF BULK AT MOST 1048576: true; the input reads as it did. -/
def fnExactValidCommonsUptoRow : OpenClaim := { program := "ytjflebgaemgeeaa", sum := "753d792e1ed0c70c260078b944dfc6a7e2fc3a275c11fa371208c0697c8816f8", func := "loop.example/g01026/laws.FnExactValidCommons", spec := "fnExactValidCommons", apart := false, narrowed := true }
def FnExactValidCommonsUptoSaid : Prop := fnExactValidCommonsUptoRow.holds Try.pinned (OpenSpec.upto fnExactValidCommonsSpec)

/-- 'laws.FnExactSpreadLeft', WHERE WHAT IT READS IS OF BULK AT MOST 1048576: true; the input reads as it did. -/
def fnExactSpreadLeftUptoRow : OpenClaim := { program := "ytjflebgaemgeeaa", sum := "753d792e1ed0c70c260078b944dfc6a7e2fc3a275c11fa371208c0697c8816f8", func := "loop.example/g01026/laws.FnExactSpreadLeft", spec := "fnExactSpreadLeft", unfollowed := true, recurses := true, apart := false, narrowed := true }
def FnExactSpreadLeftUptoSaid : Prop := fnExactSpreadLeftUptoRow.holds Try.pinned (OpenSpec.upto fnExactSpreadLeftSpec)

/-- 'laws.FnExactEnclosingPair', WHERE WHAT IT READS IS OF BULK AT MOST 1048576: true; the input reads as it did. -/
def fnExactEnclosingPairUptoRow : OpenClaim := { program := "ytjflebgaemgeeaa", sum := "753d792e1ed0c70c260078b944dfc6a7e2fc3a275c11fa371208c0697c8816f8", func := "loop.example/g01026/laws.FnExactEnclosingPair", spec := "fnExactEnclosingPair", unfollowed := true, recurses := true, apart := false, narrowed := true }
def FnExactEnclosingPairUptoSaid : Prop := fnExactEnclosingPairUptoRow.holds Try.pinned (OpenSpec.upto fnExactEnclosingPairSpec)

/-- 'laws.FnExactRangeOfMags', WHERE WHAT IT READS IS OF BULK AT MOST 1048576: true; the input reads as it did. -/
def fnExactRangeOfMagsUptoRow : OpenClaim := { program := "ytjflebgaemgeeaa", sum := "753d792e1ed0c70c260078b944dfc6a7e2fc3a275c11fa371208c0697c8816f8", func := "loop.example/g01026/laws.FnExactRangeOfMags", spec := "fnExactRangeOfMags", unfollowed := true, recurses := true, apart := false, narrowed := true }
def FnExactRangeOfMagsUptoSaid : Prop := fnExactRangeOfMagsUptoRow.holds Try.pinned (OpenSpec.upto fnExactRangeOfMagsSpec)

/-- 'laws.FnExactMeanMag', WHERE WHAT IT READS IS OF BULK AT MOST 1048576: true; the input reads as it did. -/
def fnExactMeanMagUptoRow : OpenClaim := { program := "ytjflebgaemgeeaa", sum := "753d792e1ed0c70c260078b944dfc6a7e2fc3a275c11fa371208c0697c8816f8", func := "loop.example/g01026/laws.FnExactMeanMag", spec := "fnExactMeanMag", unfollowed := true, recurses := true, apart := false, narrowed := true }
def FnExactMeanMagUptoSaid : Prop := fnExactMeanMagUptoRow.holds Try.pinned (OpenSpec.upto fnExactMeanMagSpec)

/-- 'laws.FnExactSameObservers', WHERE WHAT IT READS IS OF BULK AT MOST 1048576: true; the input reads as it did. -/
def fnExactSameObserversUptoRow : OpenClaim := { program := "ytjflebgaemgeeaa", sum := "753d792e1ed0c70c260078b944dfc6a7e2fc3a275c11fa371208c0697c8816f8", func := "loop.example/g01026/laws.FnExactSameObservers", spec := "fnExactSameObservers", apart := false, narrowed := true }
def FnExactSameObserversUptoSaid : Prop := fnExactSameObserversUptoRow.holds Try.pinned (OpenSpec.upto fnExactSameObserversSpec)

/-- 'laws.FnExactSameStars', WHERE WHAT IT READS IS OF BULK AT MOST 1048576: true; the input reads as it did. -/
def fnExactSameStarsUptoRow : OpenClaim := { program := "ytjflebgaemgeeaa", sum := "753d792e1ed0c70c260078b944dfc6a7e2fc3a275c11fa371208c0697c8816f8", func := "loop.example/g01026/laws.FnExactSameStars", spec := "fnExactSameStars", apart := false, narrowed := true }
def FnExactSameStarsUptoSaid : Prop := fnExactSameStarsUptoRow.holds Try.pinned (OpenSpec.upto fnExactSameStarsSpec)

/-- 'laws.FnExactSameEstimates', WHERE WHAT IT READS IS OF BULK AT MOST 1048576: true; the input reads as it did. -/
def fnExactSameEstimatesUptoRow : OpenClaim := { program := "ytjflebgaemgeeaa", sum := "753d792e1ed0c70c260078b944dfc6a7e2fc3a275c11fa371208c0697c8816f8", func := "loop.example/g01026/laws.FnExactSameEstimates", spec := "fnExactSameEstimates", apart := false, narrowed := true }
def FnExactSameEstimatesUptoSaid : Prop := fnExactSameEstimatesUptoRow.holds Try.pinned (OpenSpec.upto fnExactSameEstimatesSpec)

/-- 'laws.FnExactBoxAround', WHERE WHAT IT READS IS OF BULK AT MOST 1048576: true; the input reads as it did. -/
def fnExactBoxAroundUptoRow : OpenClaim := { program := "ytjflebgaemgeeaa", sum := "753d792e1ed0c70c260078b944dfc6a7e2fc3a275c11fa371208c0697c8816f8", func := "loop.example/g01026/laws.FnExactBoxAround", spec := "fnExactBoxAround", apart := false, narrowed := true }
def FnExactBoxAroundUptoSaid : Prop := fnExactBoxAroundUptoRow.holds Try.pinned (OpenSpec.upto fnExactBoxAroundSpec)

/-- 'laws.FnExactValidObservers', WHERE WHAT IT READS IS OF BULK AT MOST 1048576: true; the input reads as it did. -/
def fnExactValidObserversUptoRow : OpenClaim := { program := "ytjflebgaemgeeaa", sum := "753d792e1ed0c70c260078b944dfc6a7e2fc3a275c11fa371208c0697c8816f8", func := "loop.example/g01026/laws.FnExactValidObservers", spec := "fnExactValidObservers", unfollowed := true, recurses := true, apart := false, narrowed := true }
def FnExactValidObserversUptoSaid : Prop := fnExactValidObserversUptoRow.holds Try.pinned (OpenSpec.upto fnExactValidObserversSpec)

/-- 'laws.FnExactValidStars', WHERE WHAT IT READS IS OF BULK AT MOST 1048576: true; the input reads as it did. -/
def fnExactValidStarsUptoRow : OpenClaim := { program := "ytjflebgaemgeeaa", sum := "753d792e1ed0c70c260078b944dfc6a7e2fc3a275c11fa371208c0697c8816f8", func := "loop.example/g01026/laws.FnExactValidStars", spec := "fnExactValidStars", unfollowed := true, recurses := true, apart := false, narrowed := true }
def FnExactValidStarsUptoSaid : Prop := fnExactValidStarsUptoRow.holds Try.pinned (OpenSpec.upto fnExactValidStarsSpec)

/-- 'laws.FnExactValidEstimates', WHERE WHAT IT READS IS OF BULK AT MOST 1048576: true; the input reads as it did. -/
def fnExactValidEstimatesUptoRow : OpenClaim := { program := "ytjflebgaemgeeaa", sum := "753d792e1ed0c70c260078b944dfc6a7e2fc3a275c11fa371208c0697c8816f8", func := "loop.example/g01026/laws.FnExactValidEstimates", spec := "fnExactValidEstimates", inPlace := ["internal/bytealg.abigen_runtime_cmpstring"], apart := false, narrowed := true }
def FnExactValidEstimatesUptoSaid : Prop := fnExactValidEstimatesUptoRow.holds Try.pinned (OpenSpec.upto fnExactValidEstimatesSpec)

end Rows
end Go.Proofs.Ytjflebgaemgeeaa
