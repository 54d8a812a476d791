/-
  DERIVED. GIVEN WITH THE SEED: THE CARDS: each row of YtabgkdejpkpejaaDoorRows.lean that lists a variable, with what it lists TIED to the program's text (the seventh form; the later family's looks); each row that meets fmt, with fmt's text TOLD by the authors' own Lean function (tested against real Go, not proved from fmt's source: count such statements apart). THE CARD IS WHAT COUNTS. Prove the row's statement (the work); the ties are given (YtabgkdejpkpejaaDoorTie.lean); close each card by the builder's one call (the guide's Derived/Test/ToyasCard.lean, 'card_holds'). Laid BY PROGRAM, IN A SANDBOX (cutbox-door.mjs). By AI agents, Wed Nov 11 2026. No macro, syntax, notation, axiom, sorry.
-/
import Derived.Test.YtabgkdejpkpejaaDoorRows
import GoSem.ClaimSeven
namespace Go.Proofs.YtabgkdejpkpejaaDoor
namespace Rows

/-- THE TIED CARD OF 'laws.FnExactDecimal'. -/
def fnExactDecimalCard : Claim7 := { stood := { row := fnExactDecimalRow, standIns := [], harness := (true, "f038ff6ae942bd61a3b65bf847a681575e4224aeb566d28a7fe0f31b7459feaa"), looks := true }, kinds := [], alts := [], laidByText := true, laidKinds := [.data, .data, .data], laidTests := true, laidLooks := .later }
def FnExactDecimalCardSaid : Prop := Claim7.holds Tryd.pinned (.plain (OpenSpec.ofChange fnExactDecimalSpec)) fnExactDecimalCard

/-- THE TIED CARD OF 'laws.FnExactReadDecimal'. -/
def fnExactReadDecimalCard : Claim7 := { stood := { row := fnExactReadDecimalRow, standIns := [], harness := (true, "f038ff6ae942bd61a3b65bf847a681575e4224aeb566d28a7fe0f31b7459feaa"), looks := true }, kinds := [], alts := [], laidByText := true, laidKinds := [.data, .data, .data, .sentinel, .sentinel], laidTests := true, laidLooks := .later }
def FnExactReadDecimalCardSaid : Prop := Claim7.holds Tryd.pinned (.plain (OpenSpec.ofChange fnExactReadDecimalSpec)) fnExactReadDecimalCard

/-- THE TIED CARD OF 'laws.FnExactDegreesText'. -/
def fnExactDegreesTextCard : Claim7 := { stood := { row := fnExactDegreesTextRow, standIns := [], harness := (true, "f038ff6ae942bd61a3b65bf847a681575e4224aeb566d28a7fe0f31b7459feaa"), looks := true }, kinds := [], alts := [], laidByText := true, laidKinds := [.data, .data, .data], laidTests := true, laidLooks := .later }
def FnExactDegreesTextCardSaid : Prop := Claim7.holds Tryd.pinned (.plain (OpenSpec.ofChange fnExactDegreesTextSpec)) fnExactDegreesTextCard

/-- THE TIED CARD OF 'laws.FnExactReadDegrees'. -/
def fnExactReadDegreesCard : Claim7 := { stood := { row := fnExactReadDegreesRow, standIns := [], harness := (true, "f038ff6ae942bd61a3b65bf847a681575e4224aeb566d28a7fe0f31b7459feaa"), looks := true }, kinds := [], alts := [], laidByText := true, laidKinds := [.data, .data, .data, .data, .sentinel, .sentinel, .pinned], laidTests := true, laidLooks := .later }
def FnExactReadDegreesCardSaid : Prop := Claim7.holds Tryd.pinned (.plain (OpenSpec.ofChange fnExactReadDegreesSpec)) fnExactReadDegreesCard

/-- THE TIED CARD OF 'laws.FnExactSplitWords'. -/
def fnExactSplitWordsCard : Claim7 := { stood := { row := fnExactSplitWordsRow, standIns := [], harness := (true, "f038ff6ae942bd61a3b65bf847a681575e4224aeb566d28a7fe0f31b7459feaa"), looks := true }, kinds := [], alts := [], laidByText := true, laidKinds := [.data, .pinned], laidTests := true, laidLooks := .later }
def FnExactSplitWordsCardSaid : Prop := Claim7.holds Tryd.pinned (.plain (OpenSpec.ofChange fnExactSplitWordsSpec)) fnExactSplitWordsCard

/-- THE TIED CARD OF 'laws.FnExactListText'. -/
def fnExactListTextCard : Claim7 := { stood := { row := fnExactListTextRow, standIns := [], harness := (true, "f038ff6ae942bd61a3b65bf847a681575e4224aeb566d28a7fe0f31b7459feaa"), looks := true }, kinds := [], alts := [], laidByText := true, laidKinds := [.data, .data, .data], laidTests := true, laidLooks := .later }
def FnExactListTextCardSaid : Prop := Claim7.holds Tryd.pinned (.plain (OpenSpec.ofChange fnExactListTextSpec)) fnExactListTextCard

/-- THE TIED CARD OF 'laws.FnExactReadList'. -/
def fnExactReadListCard : Claim7 := { stood := { row := fnExactReadListRow, standIns := [], harness := (true, "f038ff6ae942bd61a3b65bf847a681575e4224aeb566d28a7fe0f31b7459feaa"), looks := true }, kinds := [], alts := [], laidByText := true, laidKinds := [.data, .data, .data, .data, .sentinel, .sentinel, .pinned], laidTests := true, laidLooks := .later }
def FnExactReadListCardSaid : Prop := Claim7.holds Tryd.pinned (.plain (OpenSpec.ofChange fnExactReadListSpec)) fnExactReadListCard

/-- THE TIED CARD OF 'laws.FnExactPipeText'. -/
def fnExactPipeTextCard : Claim7 := { stood := { row := fnExactPipeTextRow, standIns := [], harness := (true, "f038ff6ae942bd61a3b65bf847a681575e4224aeb566d28a7fe0f31b7459feaa"), looks := true }, kinds := [], alts := [], laidByText := true, laidKinds := [.data, .data, .data], laidTests := true, laidLooks := .later }
def FnExactPipeTextCardSaid : Prop := Claim7.holds Tryd.pinned (.plain (OpenSpec.ofChange fnExactPipeTextSpec)) fnExactPipeTextCard

/-- THE TIED CARD OF 'laws.FnExactReadPipe'. -/
def fnExactReadPipeCard : Claim7 := { stood := { row := fnExactReadPipeRow, standIns := [], harness := (true, "f038ff6ae942bd61a3b65bf847a681575e4224aeb566d28a7fe0f31b7459feaa"), looks := true }, kinds := [], alts := [], laidByText := true, laidKinds := [.data, .data, .data, .data, .sentinel, .sentinel, .pinned], laidTests := true, laidLooks := .later }
def FnExactReadPipeCardSaid : Prop := Claim7.holds Tryd.pinned (.plain (OpenSpec.ofChange fnExactReadPipeSpec)) fnExactReadPipeCard

/-- THE TIED CARD OF 'laws.FnExactNetworkText'. -/
def fnExactNetworkTextCard : Claim7 := { stood := { row := fnExactNetworkTextRow, standIns := [], harness := (true, "f038ff6ae942bd61a3b65bf847a681575e4224aeb566d28a7fe0f31b7459feaa"), looks := true }, kinds := [], alts := [], laidByText := true, laidKinds := [.data, .data, .data], laidTests := true, laidLooks := .later }
def FnExactNetworkTextCardSaid : Prop := Claim7.holds Tryd.pinned (.plain (OpenSpec.ofChange fnExactNetworkTextSpec)) fnExactNetworkTextCard

/-- THE SECOND FORM's CARD OF 'laws.FnExactDecimal'. -/
def fnExactDecimalUptoCard : Claim7 := { stood := { row := fnExactDecimalUptoRow, standIns := [], harness := (true, "f038ff6ae942bd61a3b65bf847a681575e4224aeb566d28a7fe0f31b7459feaa"), looks := true }, kinds := [], alts := [], laidByText := true, laidKinds := [.data, .data, .data], laidTests := true, laidLooks := .later }
def FnExactDecimalUptoCardSaid : Prop := Claim7.holds Tryd.pinned (.plain (OpenSpec.upto fnExactDecimalSpec)) fnExactDecimalUptoCard

/-- THE SECOND FORM's CARD OF 'laws.FnExactReadDecimal'. -/
def fnExactReadDecimalUptoCard : Claim7 := { stood := { row := fnExactReadDecimalUptoRow, standIns := [], harness := (true, "f038ff6ae942bd61a3b65bf847a681575e4224aeb566d28a7fe0f31b7459feaa"), looks := true }, kinds := [], alts := [], laidByText := true, laidKinds := [.data, .data, .data, .sentinel, .sentinel], laidTests := true, laidLooks := .later }
def FnExactReadDecimalUptoCardSaid : Prop := Claim7.holds Tryd.pinned (.plain (OpenSpec.upto fnExactReadDecimalSpec)) fnExactReadDecimalUptoCard

/-- THE SECOND FORM's CARD OF 'laws.FnExactDegreesText'. -/
def fnExactDegreesTextUptoCard : Claim7 := { stood := { row := fnExactDegreesTextUptoRow, standIns := [], harness := (true, "f038ff6ae942bd61a3b65bf847a681575e4224aeb566d28a7fe0f31b7459feaa"), looks := true }, kinds := [], alts := [], laidByText := true, laidKinds := [.data, .data, .data], laidTests := true, laidLooks := .later }
def FnExactDegreesTextUptoCardSaid : Prop := Claim7.holds Tryd.pinned (.plain (OpenSpec.upto fnExactDegreesTextSpec)) fnExactDegreesTextUptoCard

/-- THE SECOND FORM's CARD OF 'laws.FnExactReadDegrees'. -/
def fnExactReadDegreesUptoCard : Claim7 := { stood := { row := fnExactReadDegreesUptoRow, standIns := [], harness := (true, "f038ff6ae942bd61a3b65bf847a681575e4224aeb566d28a7fe0f31b7459feaa"), looks := true }, kinds := [], alts := [], laidByText := true, laidKinds := [.data, .data, .data, .data, .sentinel, .sentinel, .pinned], laidTests := true, laidLooks := .later }
def FnExactReadDegreesUptoCardSaid : Prop := Claim7.holds Tryd.pinned (.plain (OpenSpec.upto fnExactReadDegreesSpec)) fnExactReadDegreesUptoCard

/-- THE SECOND FORM's CARD OF 'laws.FnExactSplitWords'. -/
def fnExactSplitWordsUptoCard : Claim7 := { stood := { row := fnExactSplitWordsUptoRow, standIns := [], harness := (true, "f038ff6ae942bd61a3b65bf847a681575e4224aeb566d28a7fe0f31b7459feaa"), looks := true }, kinds := [], alts := [], laidByText := true, laidKinds := [.data, .pinned], laidTests := true, laidLooks := .later }
def FnExactSplitWordsUptoCardSaid : Prop := Claim7.holds Tryd.pinned (.plain (OpenSpec.upto fnExactSplitWordsSpec)) fnExactSplitWordsUptoCard

/-- THE SECOND FORM's CARD OF 'laws.FnExactListText'. -/
def fnExactListTextUptoCard : Claim7 := { stood := { row := fnExactListTextUptoRow, standIns := [], harness := (true, "f038ff6ae942bd61a3b65bf847a681575e4224aeb566d28a7fe0f31b7459feaa"), looks := true }, kinds := [], alts := [], laidByText := true, laidKinds := [.data, .data, .data], laidTests := true, laidLooks := .later }
def FnExactListTextUptoCardSaid : Prop := Claim7.holds Tryd.pinned (.plain (OpenSpec.upto fnExactListTextSpec)) fnExactListTextUptoCard

/-- THE SECOND FORM's CARD OF 'laws.FnExactReadList'. -/
def fnExactReadListUptoCard : Claim7 := { stood := { row := fnExactReadListUptoRow, standIns := [], harness := (true, "f038ff6ae942bd61a3b65bf847a681575e4224aeb566d28a7fe0f31b7459feaa"), looks := true }, kinds := [], alts := [], laidByText := true, laidKinds := [.data, .data, .data, .data, .sentinel, .sentinel, .pinned], laidTests := true, laidLooks := .later }
def FnExactReadListUptoCardSaid : Prop := Claim7.holds Tryd.pinned (.plain (OpenSpec.upto fnExactReadListSpec)) fnExactReadListUptoCard

/-- THE SECOND FORM's CARD OF 'laws.FnExactPipeText'. -/
def fnExactPipeTextUptoCard : Claim7 := { stood := { row := fnExactPipeTextUptoRow, standIns := [], harness := (true, "f038ff6ae942bd61a3b65bf847a681575e4224aeb566d28a7fe0f31b7459feaa"), looks := true }, kinds := [], alts := [], laidByText := true, laidKinds := [.data, .data, .data], laidTests := true, laidLooks := .later }
def FnExactPipeTextUptoCardSaid : Prop := Claim7.holds Tryd.pinned (.plain (OpenSpec.upto fnExactPipeTextSpec)) fnExactPipeTextUptoCard

/-- THE SECOND FORM's CARD OF 'laws.FnExactReadPipe'. -/
def fnExactReadPipeUptoCard : Claim7 := { stood := { row := fnExactReadPipeUptoRow, standIns := [], harness := (true, "f038ff6ae942bd61a3b65bf847a681575e4224aeb566d28a7fe0f31b7459feaa"), looks := true }, kinds := [], alts := [], laidByText := true, laidKinds := [.data, .data, .data, .data, .sentinel, .sentinel, .pinned], laidTests := true, laidLooks := .later }
def FnExactReadPipeUptoCardSaid : Prop := Claim7.holds Tryd.pinned (.plain (OpenSpec.upto fnExactReadPipeSpec)) fnExactReadPipeUptoCard

/-- THE SECOND FORM's CARD OF 'laws.FnExactNetworkText'. -/
def fnExactNetworkTextUptoCard : Claim7 := { stood := { row := fnExactNetworkTextUptoRow, standIns := [], harness := (true, "f038ff6ae942bd61a3b65bf847a681575e4224aeb566d28a7fe0f31b7459feaa"), looks := true }, kinds := [], alts := [], laidByText := true, laidKinds := [.data, .data, .data], laidTests := true, laidLooks := .later }
def FnExactNetworkTextUptoCardSaid : Prop := Claim7.holds Tryd.pinned (.plain (OpenSpec.upto fnExactNetworkTextSpec)) fnExactNetworkTextUptoCard
end Rows
end Go.Proofs.YtabgkdejpkpejaaDoor
