/-
  No cell of these rows narrows 'for every input' (looked for: loops, veiled, ifaces, maps, wideKeys, modest, calm, conditions, laid).
  DERIVED. THE GIVEN ROWS OF THIS SEAT. 12 by the template 'for every input the law returns true; each argument reads behind the call as it read before'; 0 by the template 'total and deterministic' (their statements: YtbmjkimlpneidaaTotals.lean).
  GIVEN WITH THE SEED: the statements are not yours to turn. If you find one false, say at which input.
  Laid BY PROGRAM, IN A SANDBOX (cutbox-rows.mjs): the forced cells as the released guide's own fill.sh prints them over the translation 8d71ee9bd397e257… (all of the seat's roots in one cut). By AI agents, Wed Nov 11 2026. No macro, syntax, notation, axiom, sorry.
-/
import Derived.Test.YtbmjkimlpneidaaChecked
import GoSem.Claim
import GoSem.ClaimJoined
import GoSem.ClaimMapViews
import Derived.JoinedTies
import Derived.KernelRfl
namespace Go.Proofs.Ytbmjkimlpneidaa
/- THE CELL 'sum', in the pinned program and in every row, IS THE sha256 OF THE DUMP (.gsa) THAT YtbmjkimlpneidaaProg.lean LOADS. Nothing in Lean hashes anything: it is a label: what it is worth is what the hold of that sum in a sandbox is worth. -/
noncomputable def Try.pinned : Pinned := { name := "ytbmjkimlpneidaa", sum := "8d71ee9bd397e257d4772af6a047179ee95da682a43410bc201fa0af7e0dd09e", checked := Try.checked }
namespace Rows
def none {H : Type} : Left H := { results := [], args := [] }

/-- 'laws.FnExactClockOf': WHATEVER THE INPUT: true; the input reads as it did. -/
def fnExactClockOfSpec : ChangeSpec := { name := "fnExactClockOf", fn := fun _ => fun
  | [d] => { results := [.lit (.bool true)], args := [d] }
  | _ => none }
def fnExactClockOfRow : OpenClaim := { program := "ytbmjkimlpneidaa", sum := "8d71ee9bd397e257d4772af6a047179ee95da682a43410bc201fa0af7e0dd09e", func := "loop.example/g01026/laws.FnExactClockOf", spec := "fnExactClockOf", apart := false }
def FnExactClockOfSaid : Prop := fnExactClockOfRow.holds Try.pinned (OpenSpec.ofChange fnExactClockOfSpec)

/-- ITS FALSE NEIGHBOUR: 'it returns false'. Refute it at one input. -/
def fnExactClockOfWrong : ChangeSpec := { name := "fnExactClockOf", fn := fun _ => fun
  | [d] => { results := [.lit (.bool false)], args := [d] }
  | _ => none }
def FnExactClockOfWrongFalsely : Prop := fnExactClockOfRow.holds Try.pinned (OpenSpec.ofChange fnExactClockOfWrong)

/-- 'laws.FnExactTimeOf': WHATEVER THE INPUT: true; the input reads as it did. -/
def fnExactTimeOfSpec : ChangeSpec := { name := "fnExactTimeOf", fn := fun _ => fun
  | [d1, d2, d3] => { results := [.lit (.bool true)], args := [d1, d2, d3] }
  | _ => none }
def fnExactTimeOfRow : OpenClaim := { program := "ytbmjkimlpneidaa", sum := "8d71ee9bd397e257d4772af6a047179ee95da682a43410bc201fa0af7e0dd09e", func := "loop.example/g01026/laws.FnExactTimeOf", spec := "fnExactTimeOf", apart := false }
def FnExactTimeOfSaid : Prop := fnExactTimeOfRow.holds Try.pinned (OpenSpec.ofChange fnExactTimeOfSpec)

/-- ITS FALSE NEIGHBOUR: 'it returns false'. Refute it at one input. -/
def fnExactTimeOfWrong : ChangeSpec := { name := "fnExactTimeOf", fn := fun _ => fun
  | [d1, d2, d3] => { results := [.lit (.bool false)], args := [d1, d2, d3] }
  | _ => none }
def FnExactTimeOfWrongFalsely : Prop := fnExactTimeOfRow.holds Try.pinned (OpenSpec.ofChange fnExactTimeOfWrong)

/-- 'laws.FnExactAscensionApart': WHATEVER THE INPUT: true; the input reads as it did. -/
def fnExactAscensionApartSpec : ChangeSpec := { name := "fnExactAscensionApart", fn := fun _ => fun
  | [d1, d2] => { results := [.lit (.bool true)], args := [d1, d2] }
  | _ => none }
def fnExactAscensionApartRow : OpenClaim := { program := "ytbmjkimlpneidaa", sum := "8d71ee9bd397e257d4772af6a047179ee95da682a43410bc201fa0af7e0dd09e", func := "loop.example/g01026/laws.FnExactAscensionApart", spec := "fnExactAscensionApart", apart := false }
def FnExactAscensionApartSaid : Prop := fnExactAscensionApartRow.holds Try.pinned (OpenSpec.ofChange fnExactAscensionApartSpec)

/-- ITS FALSE NEIGHBOUR: 'it returns false'. Refute it at one input. -/
def fnExactAscensionApartWrong : ChangeSpec := { name := "fnExactAscensionApart", fn := fun _ => fun
  | [d1, d2] => { results := [.lit (.bool false)], args := [d1, d2] }
  | _ => none }
def FnExactAscensionApartWrongFalsely : Prop := fnExactAscensionApartRow.holds Try.pinned (OpenSpec.ofChange fnExactAscensionApartWrong)

/-- 'laws.FnExactRoundFraction': WHATEVER THE INPUT: true; the input reads as it did. -/
def fnExactRoundFractionSpec : ChangeSpec := { name := "fnExactRoundFraction", fn := fun _ => fun
  | [d] => { results := [.lit (.bool true)], args := [d] }
  | _ => none }
def fnExactRoundFractionRow : OpenClaim := { program := "ytbmjkimlpneidaa", sum := "8d71ee9bd397e257d4772af6a047179ee95da682a43410bc201fa0af7e0dd09e", func := "loop.example/g01026/laws.FnExactRoundFraction", spec := "fnExactRoundFraction", apart := false }
def FnExactRoundFractionSaid : Prop := fnExactRoundFractionRow.holds Try.pinned (OpenSpec.ofChange fnExactRoundFractionSpec)

/-- ITS FALSE NEIGHBOUR: 'it returns false'. Refute it at one input. -/
def fnExactRoundFractionWrong : ChangeSpec := { name := "fnExactRoundFraction", fn := fun _ => fun
  | [d] => { results := [.lit (.bool false)], args := [d] }
  | _ => none }
def FnExactRoundFractionWrongFalsely : Prop := fnExactRoundFractionRow.holds Try.pinned (OpenSpec.ofChange fnExactRoundFractionWrong)

/-- 'laws.FnExactBetweenStars': WHATEVER THE INPUT: true; the input reads as it did. -/
def fnExactBetweenStarsSpec : ChangeSpec := { name := "fnExactBetweenStars", fn := fun _ => fun
  | [d1, d2, d3, d4] => { results := [.lit (.bool true)], args := [d1, d2, d3, d4] }
  | _ => none }
def fnExactBetweenStarsRow : OpenClaim := { program := "ytbmjkimlpneidaa", sum := "8d71ee9bd397e257d4772af6a047179ee95da682a43410bc201fa0af7e0dd09e", func := "loop.example/g01026/laws.FnExactBetweenStars", spec := "fnExactBetweenStars", apart := false }
def FnExactBetweenStarsSaid : Prop := fnExactBetweenStarsRow.holds Try.pinned (OpenSpec.ofChange fnExactBetweenStarsSpec)

/-- ITS FALSE NEIGHBOUR: 'it returns false'. Refute it at one input. -/
def fnExactBetweenStarsWrong : ChangeSpec := { name := "fnExactBetweenStars", fn := fun _ => fun
  | [d1, d2, d3, d4] => { results := [.lit (.bool false)], args := [d1, d2, d3, d4] }
  | _ => none }
def FnExactBetweenStarsWrongFalsely : Prop := fnExactBetweenStarsRow.holds Try.pinned (OpenSpec.ofChange fnExactBetweenStarsWrong)

/-- 'laws.FnExactBySteps': WHATEVER THE INPUT: true; the input reads as it did. -/
def fnExactByStepsSpec : ChangeSpec := { name := "fnExactBySteps", fn := fun _ => fun
  | [d1, d2, d3] => { results := [.lit (.bool true)], args := [d1, d2, d3] }
  | _ => none }
def fnExactByStepsRow : OpenClaim := { program := "ytbmjkimlpneidaa", sum := "8d71ee9bd397e257d4772af6a047179ee95da682a43410bc201fa0af7e0dd09e", func := "loop.example/g01026/laws.FnExactBySteps", spec := "fnExactBySteps", apart := false }
def FnExactByStepsSaid : Prop := fnExactByStepsRow.holds Try.pinned (OpenSpec.ofChange fnExactByStepsSpec)

/-- ITS FALSE NEIGHBOUR: 'it returns false'. Refute it at one input. -/
def fnExactByStepsWrong : ChangeSpec := { name := "fnExactBySteps", fn := fun _ => fun
  | [d1, d2, d3] => { results := [.lit (.bool false)], args := [d1, d2, d3] }
  | _ => none }
def FnExactByStepsWrongFalsely : Prop := fnExactByStepsRow.holds Try.pinned (OpenSpec.ofChange fnExactByStepsWrong)

/-- 'laws.FnExactValidDate': WHATEVER THE INPUT: true; the input reads as it did. -/
def fnExactValidDateSpec : ChangeSpec := { name := "fnExactValidDate", fn := fun _ => fun
  | [d] => { results := [.lit (.bool true)], args := [d] }
  | _ => none }
def fnExactValidDateRow : OpenClaim := { program := "ytbmjkimlpneidaa", sum := "8d71ee9bd397e257d4772af6a047179ee95da682a43410bc201fa0af7e0dd09e", func := "loop.example/g01026/laws.FnExactValidDate", spec := "fnExactValidDate", apart := false }
def FnExactValidDateSaid : Prop := fnExactValidDateRow.holds Try.pinned (OpenSpec.ofChange fnExactValidDateSpec)

/-- ITS FALSE NEIGHBOUR: 'it returns false'. Refute it at one input. -/
def fnExactValidDateWrong : ChangeSpec := { name := "fnExactValidDate", fn := fun _ => fun
  | [d] => { results := [.lit (.bool false)], args := [d] }
  | _ => none }
def FnExactValidDateWrongFalsely : Prop := fnExactValidDateRow.holds Try.pinned (OpenSpec.ofChange fnExactValidDateWrong)

/-- 'laws.FnExactHoursBetween': WHATEVER THE INPUT: true; the input reads as it did. -/
def fnExactHoursBetweenSpec : ChangeSpec := { name := "fnExactHoursBetween", fn := fun _ => fun
  | [d1, d2] => { results := [.lit (.bool true)], args := [d1, d2] }
  | _ => none }
def fnExactHoursBetweenRow : OpenClaim := { program := "ytbmjkimlpneidaa", sum := "8d71ee9bd397e257d4772af6a047179ee95da682a43410bc201fa0af7e0dd09e", func := "loop.example/g01026/laws.FnExactHoursBetween", spec := "fnExactHoursBetween", apart := false }
def FnExactHoursBetweenSaid : Prop := fnExactHoursBetweenRow.holds Try.pinned (OpenSpec.ofChange fnExactHoursBetweenSpec)

/-- ITS FALSE NEIGHBOUR: 'it returns false'. Refute it at one input. -/
def fnExactHoursBetweenWrong : ChangeSpec := { name := "fnExactHoursBetween", fn := fun _ => fun
  | [d1, d2] => { results := [.lit (.bool false)], args := [d1, d2] }
  | _ => none }
def FnExactHoursBetweenWrongFalsely : Prop := fnExactHoursBetweenRow.holds Try.pinned (OpenSpec.ofChange fnExactHoursBetweenWrong)

/-- 'laws.FnExactStepSize': WHATEVER THE INPUT: true; the input reads as it did. -/
def fnExactStepSizeSpec : ChangeSpec := { name := "fnExactStepSize", fn := fun _ => fun
  | [d1, d2, d3] => { results := [.lit (.bool true)], args := [d1, d2, d3] }
  | _ => none }
def fnExactStepSizeRow : OpenClaim := { program := "ytbmjkimlpneidaa", sum := "8d71ee9bd397e257d4772af6a047179ee95da682a43410bc201fa0af7e0dd09e", func := "loop.example/g01026/laws.FnExactStepSize", spec := "fnExactStepSize", apart := false }
def FnExactStepSizeSaid : Prop := fnExactStepSizeRow.holds Try.pinned (OpenSpec.ofChange fnExactStepSizeSpec)

/-- ITS FALSE NEIGHBOUR: 'it returns false'. Refute it at one input. -/
def fnExactStepSizeWrong : ChangeSpec := { name := "fnExactStepSize", fn := fun _ => fun
  | [d1, d2, d3] => { results := [.lit (.bool false)], args := [d1, d2, d3] }
  | _ => none }
def FnExactStepSizeWrongFalsely : Prop := fnExactStepSizeRow.holds Try.pinned (OpenSpec.ofChange fnExactStepSizeWrong)

/-- 'laws.FnExactDateOf': WHATEVER THE INPUT: true; the input reads as it did. -/
def fnExactDateOfSpec : ChangeSpec := { name := "fnExactDateOf", fn := fun _ => fun
  | [d] => { results := [.lit (.bool true)], args := [d] }
  | _ => none }
def fnExactDateOfRow : OpenClaim := { program := "ytbmjkimlpneidaa", sum := "8d71ee9bd397e257d4772af6a047179ee95da682a43410bc201fa0af7e0dd09e", func := "loop.example/g01026/laws.FnExactDateOf", spec := "fnExactDateOf", apart := false }
def FnExactDateOfSaid : Prop := fnExactDateOfRow.holds Try.pinned (OpenSpec.ofChange fnExactDateOfSpec)

/-- ITS FALSE NEIGHBOUR: 'it returns false'. Refute it at one input. -/
def fnExactDateOfWrong : ChangeSpec := { name := "fnExactDateOf", fn := fun _ => fun
  | [d] => { results := [.lit (.bool false)], args := [d] }
  | _ => none }
def FnExactDateOfWrongFalsely : Prop := fnExactDateOfRow.holds Try.pinned (OpenSpec.ofChange fnExactDateOfWrong)

/-- 'laws.FnExactDayNumber': WHATEVER THE INPUT: true; the input reads as it did. -/
def fnExactDayNumberSpec : ChangeSpec := { name := "fnExactDayNumber", fn := fun _ => fun
  | [d] => { results := [.lit (.bool true)], args := [d] }
  | _ => none }
def fnExactDayNumberRow : OpenClaim := { program := "ytbmjkimlpneidaa", sum := "8d71ee9bd397e257d4772af6a047179ee95da682a43410bc201fa0af7e0dd09e", func := "loop.example/g01026/laws.FnExactDayNumber", spec := "fnExactDayNumber", apart := false }
def FnExactDayNumberSaid : Prop := fnExactDayNumberRow.holds Try.pinned (OpenSpec.ofChange fnExactDayNumberSpec)

/-- ITS FALSE NEIGHBOUR: 'it returns false'. Refute it at one input. -/
def fnExactDayNumberWrong : ChangeSpec := { name := "fnExactDayNumber", fn := fun _ => fun
  | [d] => { results := [.lit (.bool false)], args := [d] }
  | _ => none }
def FnExactDayNumberWrongFalsely : Prop := fnExactDayNumberRow.holds Try.pinned (OpenSpec.ofChange fnExactDayNumberWrong)

/-- 'laws.FnExactIsName': WHATEVER THE INPUT: true; the input reads as it did. -/
def fnExactIsNameSpec : ChangeSpec := { name := "fnExactIsName", fn := fun _ => fun
  | [d] => { results := [.lit (.bool true)], args := [d] }
  | _ => none }
def fnExactIsNameRow : OpenClaim := { program := "ytbmjkimlpneidaa", sum := "8d71ee9bd397e257d4772af6a047179ee95da682a43410bc201fa0af7e0dd09e", func := "loop.example/g01026/laws.FnExactIsName", spec := "fnExactIsName", apart := false }
def FnExactIsNameSaid : Prop := fnExactIsNameRow.holds Try.pinned (OpenSpec.ofChange fnExactIsNameSpec)

/-- ITS FALSE NEIGHBOUR: 'it returns false'. Refute it at one input. -/
def fnExactIsNameWrong : ChangeSpec := { name := "fnExactIsName", fn := fun _ => fun
  | [d] => { results := [.lit (.bool false)], args := [d] }
  | _ => none }
def FnExactIsNameWrongFalsely : Prop := fnExactIsNameRow.holds Try.pinned (OpenSpec.ofChange fnExactIsNameWrong)

/- THE SECOND FORM. 'bulk': how many values and letters a reading holds, each counted each time it is reached (what is shared counts as often as it is met; a slice's spare places count too). A statement '..UptoSaid' is the law's where the arguments, and the package variables that the reading takes, are together of bulk at most 1048576: NARROWER than '..Said'. Prove '..Said' where nothing that the law and all that it calls make is longer than what came in: it says more and counts as full. Else prove '..UptoSaid'. A law counts once. -/
mutual
def uptoBulk {H : Type} : DataW H → Nat
  | .lit (.string bytes) => bytes.length + 1
  | .lit _ => 1
  | .nil => 1
  | .ptr d => uptoBulk d + 1
  | .slice elems spare => uptoBulkAll elems + uptoBulkAll spare + 1
  | .agg parts => uptoBulkAll parts + 1
  | .iface _ d => uptoBulk d + 1
  | .map entries => uptoBulkEntries entries + 1
  | .held _ => 1
def uptoBulkAll {H : Type} : List (DataW H) → Nat
  | [] => 0
  | d :: r => uptoBulk d + uptoBulkAll r
def uptoBulkEntries {H : Type} : List (Lit × DataW H) → Nat
  | [] => 0
  | x :: r => uptoBulkEntry x + uptoBulkEntries r
def uptoBulkEntry {H : Type} : Lit × DataW H → Nat
  | (.string bytes, d) => bytes.length + uptoBulk d + 1
  | (_, d) => uptoBulk d + 1
 end
def uptoSmall : (H : Type) → List (DataW H) → Bool := fun _ ds => decide (uptoBulkAll ds ≤ 1048576)
def OpenSpec.upto (s : _root_.Go.ChangeSpec) : _root_.Go.OpenSpec := { _root_.Go.OpenSpec.ofChange s with cond := some uptoSmall }

/-- 'laws.FnExactClockOf', WHERE WHAT IT READS IS OF BULK AT MOST 1048576: true; the input reads as it did. -/
def fnExactClockOfUptoRow : OpenClaim := { program := "ytbmjkimlpneidaa", sum := "8d71ee9bd397e257d4772af6a047179ee95da682a43410bc201fa0af7e0dd09e", func := "loop.example/g01026/laws.FnExactClockOf", spec := "fnExactClockOf", apart := false, narrowed := true }
def FnExactClockOfUptoSaid : Prop := fnExactClockOfUptoRow.holds Try.pinned (OpenSpec.upto fnExactClockOfSpec)

/-- 'laws.FnExactTimeOf', WHERE WHAT IT READS IS OF BULK AT MOST 1048576: true; the input reads as it did. -/
def fnExactTimeOfUptoRow : OpenClaim := { program := "ytbmjkimlpneidaa", sum := "8d71ee9bd397e257d4772af6a047179ee95da682a43410bc201fa0af7e0dd09e", func := "loop.example/g01026/laws.FnExactTimeOf", spec := "fnExactTimeOf", apart := false, narrowed := true }
def FnExactTimeOfUptoSaid : Prop := fnExactTimeOfUptoRow.holds Try.pinned (OpenSpec.upto fnExactTimeOfSpec)

/-- 'laws.FnExactAscensionApart', WHERE WHAT IT READS IS OF BULK AT MOST 1048576: true; the input reads as it did. -/
def fnExactAscensionApartUptoRow : OpenClaim := { program := "ytbmjkimlpneidaa", sum := "8d71ee9bd397e257d4772af6a047179ee95da682a43410bc201fa0af7e0dd09e", func := "loop.example/g01026/laws.FnExactAscensionApart", spec := "fnExactAscensionApart", apart := false, narrowed := true }
def FnExactAscensionApartUptoSaid : Prop := fnExactAscensionApartUptoRow.holds Try.pinned (OpenSpec.upto fnExactAscensionApartSpec)

/-- 'laws.FnExactRoundFraction', WHERE WHAT IT READS IS OF BULK AT MOST 1048576: true; the input reads as it did. -/
def fnExactRoundFractionUptoRow : OpenClaim := { program := "ytbmjkimlpneidaa", sum := "8d71ee9bd397e257d4772af6a047179ee95da682a43410bc201fa0af7e0dd09e", func := "loop.example/g01026/laws.FnExactRoundFraction", spec := "fnExactRoundFraction", apart := false, narrowed := true }
def FnExactRoundFractionUptoSaid : Prop := fnExactRoundFractionUptoRow.holds Try.pinned (OpenSpec.upto fnExactRoundFractionSpec)

/-- 'laws.FnExactBetweenStars', WHERE WHAT IT READS IS OF BULK AT MOST 1048576: true; the input reads as it did. -/
def fnExactBetweenStarsUptoRow : OpenClaim := { program := "ytbmjkimlpneidaa", sum := "8d71ee9bd397e257d4772af6a047179ee95da682a43410bc201fa0af7e0dd09e", func := "loop.example/g01026/laws.FnExactBetweenStars", spec := "fnExactBetweenStars", apart := false, narrowed := true }
def FnExactBetweenStarsUptoSaid : Prop := fnExactBetweenStarsUptoRow.holds Try.pinned (OpenSpec.upto fnExactBetweenStarsSpec)

/-- 'laws.FnExactBySteps', WHERE WHAT IT READS IS OF BULK AT MOST 1048576: true; the input reads as it did. -/
def fnExactByStepsUptoRow : OpenClaim := { program := "ytbmjkimlpneidaa", sum := "8d71ee9bd397e257d4772af6a047179ee95da682a43410bc201fa0af7e0dd09e", func := "loop.example/g01026/laws.FnExactBySteps", spec := "fnExactBySteps", apart := false, narrowed := true }
def FnExactByStepsUptoSaid : Prop := fnExactByStepsUptoRow.holds Try.pinned (OpenSpec.upto fnExactByStepsSpec)

/-- 'laws.FnExactValidDate', WHERE WHAT IT READS IS OF BULK AT MOST 1048576: true; the input reads as it did. -/
def fnExactValidDateUptoRow : OpenClaim := { program := "ytbmjkimlpneidaa", sum := "8d71ee9bd397e257d4772af6a047179ee95da682a43410bc201fa0af7e0dd09e", func := "loop.example/g01026/laws.FnExactValidDate", spec := "fnExactValidDate", apart := false, narrowed := true }
def FnExactValidDateUptoSaid : Prop := fnExactValidDateUptoRow.holds Try.pinned (OpenSpec.upto fnExactValidDateSpec)

/-- 'laws.FnExactHoursBetween', WHERE WHAT IT READS IS OF BULK AT MOST 1048576: true; the input reads as it did. -/
def fnExactHoursBetweenUptoRow : OpenClaim := { program := "ytbmjkimlpneidaa", sum := "8d71ee9bd397e257d4772af6a047179ee95da682a43410bc201fa0af7e0dd09e", func := "loop.example/g01026/laws.FnExactHoursBetween", spec := "fnExactHoursBetween", apart := false, narrowed := true }
def FnExactHoursBetweenUptoSaid : Prop := fnExactHoursBetweenUptoRow.holds Try.pinned (OpenSpec.upto fnExactHoursBetweenSpec)

/-- 'laws.FnExactStepSize', WHERE WHAT IT READS IS OF BULK AT MOST 1048576: true; the input reads as it did. -/
def fnExactStepSizeUptoRow : OpenClaim := { program := "ytbmjkimlpneidaa", sum := "8d71ee9bd397e257d4772af6a047179ee95da682a43410bc201fa0af7e0dd09e", func := "loop.example/g01026/laws.FnExactStepSize", spec := "fnExactStepSize", apart := false, narrowed := true }
def FnExactStepSizeUptoSaid : Prop := fnExactStepSizeUptoRow.holds Try.pinned (OpenSpec.upto fnExactStepSizeSpec)

/-- 'laws.FnExactDateOf', WHERE WHAT IT READS IS OF BULK AT MOST 1048576: true; the input reads as it did. -/
def fnExactDateOfUptoRow : OpenClaim := { program := "ytbmjkimlpneidaa", sum := "8d71ee9bd397e257d4772af6a047179ee95da682a43410bc201fa0af7e0dd09e", func := "loop.example/g01026/laws.FnExactDateOf", spec := "fnExactDateOf", apart := false, narrowed := true }
def FnExactDateOfUptoSaid : Prop := fnExactDateOfUptoRow.holds Try.pinned (OpenSpec.upto fnExactDateOfSpec)

/-- 'laws.FnExactDayNumber', WHERE WHAT IT READS IS OF BULK AT MOST 1048576: true; the input reads as it did. -/
def fnExactDayNumberUptoRow : OpenClaim := { program := "ytbmjkimlpneidaa", sum := "8d71ee9bd397e257d4772af6a047179ee95da682a43410bc201fa0af7e0dd09e", func := "loop.example/g01026/laws.FnExactDayNumber", spec := "fnExactDayNumber", apart := false, narrowed := true }
def FnExactDayNumberUptoSaid : Prop := fnExactDayNumberUptoRow.holds Try.pinned (OpenSpec.upto fnExactDayNumberSpec)

/-- 'laws.FnExactIsName', WHERE WHAT IT READS IS OF BULK AT MOST 1048576: true; the input reads as it did. -/
def fnExactIsNameUptoRow : OpenClaim := { program := "ytbmjkimlpneidaa", sum := "8d71ee9bd397e257d4772af6a047179ee95da682a43410bc201fa0af7e0dd09e", func := "loop.example/g01026/laws.FnExactIsName", spec := "fnExactIsName", apart := false, narrowed := true }
def FnExactIsNameUptoSaid : Prop := fnExactIsNameUptoRow.holds Try.pinned (OpenSpec.upto fnExactIsNameSpec)

end Rows
end Go.Proofs.Ytbmjkimlpneidaa
