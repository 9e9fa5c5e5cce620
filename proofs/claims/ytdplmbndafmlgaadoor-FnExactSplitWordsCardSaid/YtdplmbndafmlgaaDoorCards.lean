/-
  DERIVED. GIVEN WITH THE SEED: THE CARDS: each row of YtdplmbndafmlgaaDoorRows.lean that lists a variable, with what it lists TIED to the program's text (the seventh form; the later family's looks); each row that meets fmt, with fmt's text TOLD by the authors' own Lean function (tested against real Go, not proved from fmt's source: count such statements apart). THE CARD IS WHAT COUNTS. Prove the row's statement (the work); the ties are given (YtdplmbndafmlgaaDoorTie.lean); close each card by the builder's one call (the guide's Derived/Test/ToyasCard.lean, 'card_holds'). Laid BY PROGRAM, IN A SANDBOX (cutbox-door.mjs). By AI agents, Wed Nov 11 2026. No macro, syntax, notation, axiom, sorry.
-/
import Derived.Test.YtdplmbndafmlgaaDoorRows
import GoSem.ClaimSeven
namespace Go.Proofs.YtdplmbndafmlgaaDoor
namespace Rows

/-- THE TIED CARD OF 'laws.FnExactDecimal'. -/
def fnExactDecimalCard : Claim7 := { stood := { row := fnExactDecimalRow, standIns := [], harness := (true, "63970a31305599f0e5ed1cc6b10106958abc75b16e6b3cfce6eba96f9817c046"), looks := true }, kinds := [], alts := [], laidByText := true, laidKinds := [.data, .data, .data], laidTests := true, laidLooks := .later }
def FnExactDecimalCardSaid : Prop := Claim7.holds Tryd.pinned (.plain (OpenSpec.ofChange fnExactDecimalSpec)) fnExactDecimalCard

/-- THE TIED CARD OF 'laws.FnExactTimeText'. -/
def fnExactTimeTextCard : Claim7 := { stood := { row := fnExactTimeTextRow, standIns := [], harness := (true, "63970a31305599f0e5ed1cc6b10106958abc75b16e6b3cfce6eba96f9817c046"), looks := true }, kinds := [], alts := [], laidByText := true, laidKinds := [.data, .data, .data], laidTests := true, laidLooks := .later }
def FnExactTimeTextCardSaid : Prop := Claim7.holds Tryd.pinned (.plain (OpenSpec.ofChange fnExactTimeTextSpec)) fnExactTimeTextCard

/-- THE TIED CARD OF 'laws.FnExactMagText'. -/
def fnExactMagTextCard : Claim7 := { stood := { row := fnExactMagTextRow, standIns := [], harness := (true, "63970a31305599f0e5ed1cc6b10106958abc75b16e6b3cfce6eba96f9817c046"), looks := true }, kinds := [], alts := [], laidByText := true, laidKinds := [.data, .data, .data], laidTests := true, laidLooks := .later }
def FnExactMagTextCardSaid : Prop := Claim7.holds Tryd.pinned (.plain (OpenSpec.ofChange fnExactMagTextSpec)) fnExactMagTextCard

/-- THE TIED CARD OF 'laws.FnExactObserverText'. -/
def fnExactObserverTextCard : Claim7 := { stood := { row := fnExactObserverTextRow, standIns := [], harness := (true, "63970a31305599f0e5ed1cc6b10106958abc75b16e6b3cfce6eba96f9817c046"), looks := true }, kinds := [], alts := [], laidByText := true, laidKinds := [.data, .data, .data], laidTests := true, laidLooks := .later }
def FnExactObserverTextCardSaid : Prop := Claim7.holds Tryd.pinned (.plain (OpenSpec.ofChange fnExactObserverTextSpec)) fnExactObserverTextCard

/-- THE TIED CARD OF 'laws.FnExactDateText'. -/
def fnExactDateTextCard : Claim7 := { stood := { row := fnExactDateTextRow, standIns := [], harness := (true, "63970a31305599f0e5ed1cc6b10106958abc75b16e6b3cfce6eba96f9817c046"), looks := true }, kinds := [], alts := [], laidByText := true, laidKinds := [.data, .data, .data], laidTests := true, laidLooks := .later }
def FnExactDateTextCardSaid : Prop := Claim7.holds Tryd.pinned (.plain (OpenSpec.ofChange fnExactDateTextSpec)) fnExactDateTextCard

/-- THE TIED CARD OF 'laws.FnExactReadDate'. -/
def fnExactReadDateCard : Claim7 := { stood := { row := fnExactReadDateRow, standIns := [], harness := (true, "63970a31305599f0e5ed1cc6b10106958abc75b16e6b3cfce6eba96f9817c046"), looks := true }, kinds := [], alts := [], laidByText := true, laidKinds := [.data, .data, .data], laidTests := true, laidLooks := .later }
def FnExactReadDateCardSaid : Prop := Claim7.holds Tryd.pinned (.plain (OpenSpec.ofChange fnExactReadDateSpec)) fnExactReadDateCard

/-- THE TIED CARD OF 'laws.FnExactPositionText'. -/
def fnExactPositionTextCard : Claim7 := { stood := { row := fnExactPositionTextRow, standIns := [], harness := (true, "63970a31305599f0e5ed1cc6b10106958abc75b16e6b3cfce6eba96f9817c046"), looks := true }, kinds := [], alts := [], laidByText := true, laidKinds := [.data, .data, .data], laidTests := true, laidLooks := .later }
def FnExactPositionTextCardSaid : Prop := Claim7.holds Tryd.pinned (.plain (OpenSpec.ofChange fnExactPositionTextSpec)) fnExactPositionTextCard

/-- THE TIED CARD OF 'laws.FnExactSplitWords'. -/
def fnExactSplitWordsCard : Claim7 := { stood := { row := fnExactSplitWordsRow, standIns := [], harness := (true, "63970a31305599f0e5ed1cc6b10106958abc75b16e6b3cfce6eba96f9817c046"), looks := true }, kinds := [], alts := [], laidByText := true, laidKinds := [.data, .pinned], laidTests := true, laidLooks := .later }
def FnExactSplitWordsCardSaid : Prop := Claim7.holds Tryd.pinned (.plain (OpenSpec.ofChange fnExactSplitWordsSpec)) fnExactSplitWordsCard

/-- THE TIED CARD OF 'laws.FnExactReadDecimal'. -/
def fnExactReadDecimalCard : Claim7 := { stood := { row := fnExactReadDecimalRow, standIns := [], harness := (true, "63970a31305599f0e5ed1cc6b10106958abc75b16e6b3cfce6eba96f9817c046"), looks := true }, kinds := [], alts := [], laidByText := true, laidKinds := [.data, .data, .data, .sentinel, .sentinel], laidTests := true, laidLooks := .later }
def FnExactReadDecimalCardSaid : Prop := Claim7.holds Tryd.pinned (.plain (OpenSpec.ofChange fnExactReadDecimalSpec)) fnExactReadDecimalCard

/-- THE TIED CARD OF 'laws.FnExactReadTime'. -/
def fnExactReadTimeCard : Claim7 := { stood := { row := fnExactReadTimeRow, standIns := [], harness := (true, "63970a31305599f0e5ed1cc6b10106958abc75b16e6b3cfce6eba96f9817c046"), looks := true }, kinds := [], alts := [], laidByText := true, laidKinds := [.data, .data, .data, .sentinel, .sentinel], laidTests := true, laidLooks := .later }
def FnExactReadTimeCardSaid : Prop := Claim7.holds Tryd.pinned (.plain (OpenSpec.ofChange fnExactReadTimeSpec)) fnExactReadTimeCard

/-- THE TIED CARD OF 'laws.FnExactReadMag'. -/
def fnExactReadMagCard : Claim7 := { stood := { row := fnExactReadMagRow, standIns := [], harness := (true, "63970a31305599f0e5ed1cc6b10106958abc75b16e6b3cfce6eba96f9817c046"), looks := true }, kinds := [], alts := [], laidByText := true, laidKinds := [.data, .data, .data, .sentinel, .sentinel], laidTests := true, laidLooks := .later }
def FnExactReadMagCardSaid : Prop := Claim7.holds Tryd.pinned (.plain (OpenSpec.ofChange fnExactReadMagSpec)) fnExactReadMagCard

/-- THE TIED CARD OF 'laws.FnExactReadObserver'. -/
def fnExactReadObserverCard : Claim7 := { stood := { row := fnExactReadObserverRow, standIns := [], harness := (true, "63970a31305599f0e5ed1cc6b10106958abc75b16e6b3cfce6eba96f9817c046"), looks := true }, kinds := [], alts := [], laidByText := true, laidKinds := [.data, .data, .data, .sentinel, .sentinel], laidTests := true, laidLooks := .later }
def FnExactReadObserverCardSaid : Prop := Claim7.holds Tryd.pinned (.plain (OpenSpec.ofChange fnExactReadObserverSpec)) fnExactReadObserverCard

/-- THE SECOND FORM's CARD OF 'laws.FnExactDecimal'. -/
def fnExactDecimalUptoCard : Claim7 := { stood := { row := fnExactDecimalUptoRow, standIns := [], harness := (true, "63970a31305599f0e5ed1cc6b10106958abc75b16e6b3cfce6eba96f9817c046"), looks := true }, kinds := [], alts := [], laidByText := true, laidKinds := [.data, .data, .data], laidTests := true, laidLooks := .later }
def FnExactDecimalUptoCardSaid : Prop := Claim7.holds Tryd.pinned (.plain (OpenSpec.upto fnExactDecimalSpec)) fnExactDecimalUptoCard

/-- THE SECOND FORM's CARD OF 'laws.FnExactTimeText'. -/
def fnExactTimeTextUptoCard : Claim7 := { stood := { row := fnExactTimeTextUptoRow, standIns := [], harness := (true, "63970a31305599f0e5ed1cc6b10106958abc75b16e6b3cfce6eba96f9817c046"), looks := true }, kinds := [], alts := [], laidByText := true, laidKinds := [.data, .data, .data], laidTests := true, laidLooks := .later }
def FnExactTimeTextUptoCardSaid : Prop := Claim7.holds Tryd.pinned (.plain (OpenSpec.upto fnExactTimeTextSpec)) fnExactTimeTextUptoCard

/-- THE SECOND FORM's CARD OF 'laws.FnExactMagText'. -/
def fnExactMagTextUptoCard : Claim7 := { stood := { row := fnExactMagTextUptoRow, standIns := [], harness := (true, "63970a31305599f0e5ed1cc6b10106958abc75b16e6b3cfce6eba96f9817c046"), looks := true }, kinds := [], alts := [], laidByText := true, laidKinds := [.data, .data, .data], laidTests := true, laidLooks := .later }
def FnExactMagTextUptoCardSaid : Prop := Claim7.holds Tryd.pinned (.plain (OpenSpec.upto fnExactMagTextSpec)) fnExactMagTextUptoCard

/-- THE SECOND FORM's CARD OF 'laws.FnExactObserverText'. -/
def fnExactObserverTextUptoCard : Claim7 := { stood := { row := fnExactObserverTextUptoRow, standIns := [], harness := (true, "63970a31305599f0e5ed1cc6b10106958abc75b16e6b3cfce6eba96f9817c046"), looks := true }, kinds := [], alts := [], laidByText := true, laidKinds := [.data, .data, .data], laidTests := true, laidLooks := .later }
def FnExactObserverTextUptoCardSaid : Prop := Claim7.holds Tryd.pinned (.plain (OpenSpec.upto fnExactObserverTextSpec)) fnExactObserverTextUptoCard

/-- THE SECOND FORM's CARD OF 'laws.FnExactDateText'. -/
def fnExactDateTextUptoCard : Claim7 := { stood := { row := fnExactDateTextUptoRow, standIns := [], harness := (true, "63970a31305599f0e5ed1cc6b10106958abc75b16e6b3cfce6eba96f9817c046"), looks := true }, kinds := [], alts := [], laidByText := true, laidKinds := [.data, .data, .data], laidTests := true, laidLooks := .later }
def FnExactDateTextUptoCardSaid : Prop := Claim7.holds Tryd.pinned (.plain (OpenSpec.upto fnExactDateTextSpec)) fnExactDateTextUptoCard

/-- THE SECOND FORM's CARD OF 'laws.FnExactReadDate'. -/
def fnExactReadDateUptoCard : Claim7 := { stood := { row := fnExactReadDateUptoRow, standIns := [], harness := (true, "63970a31305599f0e5ed1cc6b10106958abc75b16e6b3cfce6eba96f9817c046"), looks := true }, kinds := [], alts := [], laidByText := true, laidKinds := [.data, .data, .data], laidTests := true, laidLooks := .later }
def FnExactReadDateUptoCardSaid : Prop := Claim7.holds Tryd.pinned (.plain (OpenSpec.upto fnExactReadDateSpec)) fnExactReadDateUptoCard

/-- THE SECOND FORM's CARD OF 'laws.FnExactPositionText'. -/
def fnExactPositionTextUptoCard : Claim7 := { stood := { row := fnExactPositionTextUptoRow, standIns := [], harness := (true, "63970a31305599f0e5ed1cc6b10106958abc75b16e6b3cfce6eba96f9817c046"), looks := true }, kinds := [], alts := [], laidByText := true, laidKinds := [.data, .data, .data], laidTests := true, laidLooks := .later }
def FnExactPositionTextUptoCardSaid : Prop := Claim7.holds Tryd.pinned (.plain (OpenSpec.upto fnExactPositionTextSpec)) fnExactPositionTextUptoCard

/-- THE SECOND FORM's CARD OF 'laws.FnExactSplitWords'. -/
def fnExactSplitWordsUptoCard : Claim7 := { stood := { row := fnExactSplitWordsUptoRow, standIns := [], harness := (true, "63970a31305599f0e5ed1cc6b10106958abc75b16e6b3cfce6eba96f9817c046"), looks := true }, kinds := [], alts := [], laidByText := true, laidKinds := [.data, .pinned], laidTests := true, laidLooks := .later }
def FnExactSplitWordsUptoCardSaid : Prop := Claim7.holds Tryd.pinned (.plain (OpenSpec.upto fnExactSplitWordsSpec)) fnExactSplitWordsUptoCard

/-- THE SECOND FORM's CARD OF 'laws.FnExactReadDecimal'. -/
def fnExactReadDecimalUptoCard : Claim7 := { stood := { row := fnExactReadDecimalUptoRow, standIns := [], harness := (true, "63970a31305599f0e5ed1cc6b10106958abc75b16e6b3cfce6eba96f9817c046"), looks := true }, kinds := [], alts := [], laidByText := true, laidKinds := [.data, .data, .data, .sentinel, .sentinel], laidTests := true, laidLooks := .later }
def FnExactReadDecimalUptoCardSaid : Prop := Claim7.holds Tryd.pinned (.plain (OpenSpec.upto fnExactReadDecimalSpec)) fnExactReadDecimalUptoCard

/-- THE SECOND FORM's CARD OF 'laws.FnExactReadTime'. -/
def fnExactReadTimeUptoCard : Claim7 := { stood := { row := fnExactReadTimeUptoRow, standIns := [], harness := (true, "63970a31305599f0e5ed1cc6b10106958abc75b16e6b3cfce6eba96f9817c046"), looks := true }, kinds := [], alts := [], laidByText := true, laidKinds := [.data, .data, .data, .sentinel, .sentinel], laidTests := true, laidLooks := .later }
def FnExactReadTimeUptoCardSaid : Prop := Claim7.holds Tryd.pinned (.plain (OpenSpec.upto fnExactReadTimeSpec)) fnExactReadTimeUptoCard

/-- THE SECOND FORM's CARD OF 'laws.FnExactReadMag'. -/
def fnExactReadMagUptoCard : Claim7 := { stood := { row := fnExactReadMagUptoRow, standIns := [], harness := (true, "63970a31305599f0e5ed1cc6b10106958abc75b16e6b3cfce6eba96f9817c046"), looks := true }, kinds := [], alts := [], laidByText := true, laidKinds := [.data, .data, .data, .sentinel, .sentinel], laidTests := true, laidLooks := .later }
def FnExactReadMagUptoCardSaid : Prop := Claim7.holds Tryd.pinned (.plain (OpenSpec.upto fnExactReadMagSpec)) fnExactReadMagUptoCard

/-- THE SECOND FORM's CARD OF 'laws.FnExactReadObserver'. -/
def fnExactReadObserverUptoCard : Claim7 := { stood := { row := fnExactReadObserverUptoRow, standIns := [], harness := (true, "63970a31305599f0e5ed1cc6b10106958abc75b16e6b3cfce6eba96f9817c046"), looks := true }, kinds := [], alts := [], laidByText := true, laidKinds := [.data, .data, .data, .sentinel, .sentinel], laidTests := true, laidLooks := .later }
def FnExactReadObserverUptoCardSaid : Prop := Claim7.holds Tryd.pinned (.plain (OpenSpec.upto fnExactReadObserverSpec)) fnExactReadObserverUptoCard
end Rows
end Go.Proofs.YtdplmbndafmlgaaDoor
