/-
  DERIVED. GIVEN WITH THE SEED: THE CARDS: each row of YtckcngmbbnilnaaDoorRows.lean that lists a variable, with what it lists TIED to the program's text (the seventh form; the later family's looks); each row that meets fmt, with fmt's text TOLD by the authors' own Lean function (tested against real Go, not proved from fmt's source: count such statements apart). THE CARD IS WHAT COUNTS. Prove the row's statement (the work); the ties are given (YtckcngmbbnilnaaDoorTie.lean); close each card by the builder's one call (the guide's Derived/Test/ToyasCard.lean, 'card_holds'). Laid BY PROGRAM, IN A SANDBOX (cutbox-door.mjs). By AI agents, Wed Nov 11 2026. No macro, syntax, notation, axiom, sorry.
-/
import Derived.Test.YtckcngmbbnilnaaDoorRows
import GoSem.ClaimSeven
namespace Go.Proofs.YtckcngmbbnilnaaDoor
namespace Rows

/-- THE TIED CARD OF 'laws.FnExactNumberText'. -/
def fnExactNumberTextCard : Claim7 := { stood := { row := fnExactNumberTextRow, standIns := [], harness := (true, "b7ccee4b482efc623b77258982bdb46d3eb3bc83fa4a46a5888c5f53e097260e"), looks := true }, kinds := [], alts := [], laidByText := true, laidKinds := [.data, .data, .data], laidTests := true, laidLooks := .later }
def FnExactNumberTextCardSaid : Prop := Claim7.holds Tryd.pinned (.plain (OpenSpec.ofChange fnExactNumberTextSpec)) fnExactNumberTextCard

/-- THE TIED CARD OF 'laws.FnExactTrainText'. -/
def fnExactTrainTextCard : Claim7 := { stood := { row := fnExactTrainTextRow, standIns := [], harness := (true, "b7ccee4b482efc623b77258982bdb46d3eb3bc83fa4a46a5888c5f53e097260e"), looks := true }, kinds := [], alts := [], laidByText := true, laidKinds := [.data, .data, .data], laidTests := true, laidLooks := .later }
def FnExactTrainTextCardSaid : Prop := Claim7.holds Tryd.pinned (.plain (OpenSpec.ofChange fnExactTrainTextSpec)) fnExactTrainTextCard

/-- THE TIED CARD OF 'laws.FnExactPlateText'. -/
def fnExactPlateTextCard : Claim7 := { stood := { row := fnExactPlateTextRow, standIns := [], harness := (true, "b7ccee4b482efc623b77258982bdb46d3eb3bc83fa4a46a5888c5f53e097260e"), looks := true }, kinds := [], alts := [], laidByText := true, laidKinds := [.data, .data, .data], laidTests := true, laidLooks := .later }
def FnExactPlateTextCardSaid : Prop := Claim7.holds Tryd.pinned (.plain (OpenSpec.ofChange fnExactPlateTextSpec)) fnExactPlateTextCard

/-- THE TIED CARD OF 'laws.FnExactReadNumber'. -/
def fnExactReadNumberCard : Claim7 := { stood := { row := fnExactReadNumberRow, standIns := [], harness := (true, "b7ccee4b482efc623b77258982bdb46d3eb3bc83fa4a46a5888c5f53e097260e"), looks := true }, kinds := [], alts := [], laidByText := true, laidKinds := [.data, .data, .data, .sentinel, .sentinel], laidTests := true, laidLooks := .later }
def FnExactReadNumberCardSaid : Prop := Claim7.holds Tryd.pinned (.plain (OpenSpec.ofChange fnExactReadNumberSpec)) fnExactReadNumberCard

/-- THE TIED CARD OF 'laws.FnExactReadPlate'. -/
def fnExactReadPlateCard : Claim7 := { stood := { row := fnExactReadPlateRow, standIns := [], harness := (true, "b7ccee4b482efc623b77258982bdb46d3eb3bc83fa4a46a5888c5f53e097260e"), looks := true }, kinds := [], alts := [], laidByText := true, laidKinds := [.data, .data, .data, .data, .sentinel, .sentinel, .pinned], laidTests := true, laidLooks := .later }
def FnExactReadPlateCardSaid : Prop := Claim7.holds Tryd.pinned (.plain (OpenSpec.ofChange fnExactReadPlateSpec)) fnExactReadPlateCard

/-- THE TIED CARD OF 'laws.FnExactReadTrain'. -/
def fnExactReadTrainCard : Claim7 := { stood := { row := fnExactReadTrainRow, standIns := [], harness := (true, "b7ccee4b482efc623b77258982bdb46d3eb3bc83fa4a46a5888c5f53e097260e"), looks := true }, kinds := [], alts := [], laidByText := true, laidKinds := [.data, .data, .data, .data, .sentinel, .sentinel, .pinned], laidTests := true, laidLooks := .later }
def FnExactReadTrainCardSaid : Prop := Claim7.holds Tryd.pinned (.plain (OpenSpec.ofChange fnExactReadTrainSpec)) fnExactReadTrainCard

/-- THE SECOND FORM's CARD OF 'laws.FnExactNumberText'. -/
def fnExactNumberTextUptoCard : Claim7 := { stood := { row := fnExactNumberTextUptoRow, standIns := [], harness := (true, "b7ccee4b482efc623b77258982bdb46d3eb3bc83fa4a46a5888c5f53e097260e"), looks := true }, kinds := [], alts := [], laidByText := true, laidKinds := [.data, .data, .data], laidTests := true, laidLooks := .later }
def FnExactNumberTextUptoCardSaid : Prop := Claim7.holds Tryd.pinned (.plain (OpenSpec.upto fnExactNumberTextSpec)) fnExactNumberTextUptoCard

/-- THE SECOND FORM's CARD OF 'laws.FnExactTrainText'. -/
def fnExactTrainTextUptoCard : Claim7 := { stood := { row := fnExactTrainTextUptoRow, standIns := [], harness := (true, "b7ccee4b482efc623b77258982bdb46d3eb3bc83fa4a46a5888c5f53e097260e"), looks := true }, kinds := [], alts := [], laidByText := true, laidKinds := [.data, .data, .data], laidTests := true, laidLooks := .later }
def FnExactTrainTextUptoCardSaid : Prop := Claim7.holds Tryd.pinned (.plain (OpenSpec.upto fnExactTrainTextSpec)) fnExactTrainTextUptoCard

/-- THE SECOND FORM's CARD OF 'laws.FnExactPlateText'. -/
def fnExactPlateTextUptoCard : Claim7 := { stood := { row := fnExactPlateTextUptoRow, standIns := [], harness := (true, "b7ccee4b482efc623b77258982bdb46d3eb3bc83fa4a46a5888c5f53e097260e"), looks := true }, kinds := [], alts := [], laidByText := true, laidKinds := [.data, .data, .data], laidTests := true, laidLooks := .later }
def FnExactPlateTextUptoCardSaid : Prop := Claim7.holds Tryd.pinned (.plain (OpenSpec.upto fnExactPlateTextSpec)) fnExactPlateTextUptoCard

/-- THE SECOND FORM's CARD OF 'laws.FnExactReadNumber'. -/
def fnExactReadNumberUptoCard : Claim7 := { stood := { row := fnExactReadNumberUptoRow, standIns := [], harness := (true, "b7ccee4b482efc623b77258982bdb46d3eb3bc83fa4a46a5888c5f53e097260e"), looks := true }, kinds := [], alts := [], laidByText := true, laidKinds := [.data, .data, .data, .sentinel, .sentinel], laidTests := true, laidLooks := .later }
def FnExactReadNumberUptoCardSaid : Prop := Claim7.holds Tryd.pinned (.plain (OpenSpec.upto fnExactReadNumberSpec)) fnExactReadNumberUptoCard

/-- THE SECOND FORM's CARD OF 'laws.FnExactReadPlate'. -/
def fnExactReadPlateUptoCard : Claim7 := { stood := { row := fnExactReadPlateUptoRow, standIns := [], harness := (true, "b7ccee4b482efc623b77258982bdb46d3eb3bc83fa4a46a5888c5f53e097260e"), looks := true }, kinds := [], alts := [], laidByText := true, laidKinds := [.data, .data, .data, .data, .sentinel, .sentinel, .pinned], laidTests := true, laidLooks := .later }
def FnExactReadPlateUptoCardSaid : Prop := Claim7.holds Tryd.pinned (.plain (OpenSpec.upto fnExactReadPlateSpec)) fnExactReadPlateUptoCard

/-- THE SECOND FORM's CARD OF 'laws.FnExactReadTrain'. -/
def fnExactReadTrainUptoCard : Claim7 := { stood := { row := fnExactReadTrainUptoRow, standIns := [], harness := (true, "b7ccee4b482efc623b77258982bdb46d3eb3bc83fa4a46a5888c5f53e097260e"), looks := true }, kinds := [], alts := [], laidByText := true, laidKinds := [.data, .data, .data, .data, .sentinel, .sentinel, .pinned], laidTests := true, laidLooks := .later }
def FnExactReadTrainUptoCardSaid : Prop := Claim7.holds Tryd.pinned (.plain (OpenSpec.upto fnExactReadTrainSpec)) fnExactReadTrainUptoCard
end Rows
end Go.Proofs.YtckcngmbbnilnaaDoor
