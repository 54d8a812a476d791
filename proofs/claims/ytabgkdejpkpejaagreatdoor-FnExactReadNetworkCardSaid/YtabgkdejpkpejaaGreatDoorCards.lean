/-
  DERIVED. GIVEN WITH THE SEED: THE CARDS: each row of YtabgkdejpkpejaaGreatDoorRows.lean that lists a variable, with what it lists TIED to the program's text (the seventh form; the later family's looks); each row that meets fmt, with fmt's text TOLD by the authors' own Lean function (tested against real Go, not proved from fmt's source: count such statements apart). THE CARD IS WHAT COUNTS. Prove the row's statement (the work); the ties are given (YtabgkdejpkpejaaGreatDoorTie.lean); close each card by the builder's one call (the guide's Derived/Test/ToyasCard.lean, 'card_holds'). Laid BY PROGRAM, IN A SANDBOX (cutbox-door.mjs). By AI agents, Wed Nov 11 2026. No macro, syntax, notation, axiom, sorry.
-/
import Derived.Test.YtabgkdejpkpejaaGreatDoorRows
import GoSem.ClaimSeven
namespace Go.Proofs.YtabgkdejpkpejaaGreatDoor
namespace Rows

/-- THE TIED CARD OF 'laws.FnExactReadNetwork'. -/
def fnExactReadNetworkCard : Claim7 := { stood := { row := fnExactReadNetworkRow, standIns := [], harness := (true, "3c718f72b07b14341642876f6cb26858163167cecefd215f476f828074733753"), looks := true }, kinds := [], alts := [], laidByText := true, laidKinds := [.data, .data, .data, .data, .sentinel, .sentinel, .pinned], laidTests := true, laidLooks := .later }
def FnExactReadNetworkCardSaid : Prop := Claim7.holds Tryz.pinned (.plain (OpenSpec.ofChange fnExactReadNetworkSpec)) fnExactReadNetworkCard

/-- THE SECOND FORM's CARD OF 'laws.FnExactReadNetwork'. -/
def fnExactReadNetworkUptoCard : Claim7 := { stood := { row := fnExactReadNetworkUptoRow, standIns := [], harness := (true, "3c718f72b07b14341642876f6cb26858163167cecefd215f476f828074733753"), looks := true }, kinds := [], alts := [], laidByText := true, laidKinds := [.data, .data, .data, .data, .sentinel, .sentinel, .pinned], laidTests := true, laidLooks := .later }
def FnExactReadNetworkUptoCardSaid : Prop := Claim7.holds Tryz.pinned (.plain (OpenSpec.upto fnExactReadNetworkSpec)) fnExactReadNetworkUptoCard
end Rows
end Go.Proofs.YtabgkdejpkpejaaGreatDoor
