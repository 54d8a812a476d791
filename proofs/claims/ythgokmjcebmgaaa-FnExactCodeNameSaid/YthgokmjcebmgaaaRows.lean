/-
  No cell of these rows narrows 'for every input' (looked for: loops, veiled, ifaces, maps, wideKeys, modest, calm, conditions, laid).
  DERIVED. THE GIVEN ROWS OF THIS SEAT. 12 by the template 'for every input the law returns true; each argument reads behind the call as it read before'; 0 by the template 'total and deterministic' (their statements: YthgokmjcebmgaaaTotals.lean).
  GIVEN WITH THE SEED: the statements are not yours to turn. If you find one false, say at which input.
  Laid BY PROGRAM, IN A SANDBOX (cutbox-rows.mjs): the forced cells as the released guide's own fill.sh prints them over the translation 8ee56efdaedc40ad… (all of the seat's roots in one cut). By AI agents, Wed Nov 11 2026. No macro, syntax, notation, axiom, sorry.
-/
import Derived.Test.YthgokmjcebmgaaaChecked
import GoSem.Claim
import GoSem.ClaimJoined
import GoSem.ClaimMapViews
import Derived.JoinedTies
import Derived.KernelRfl
namespace Go.Proofs.Ythgokmjcebmgaaa
/- THE CELL 'sum', in the pinned program and in every row, IS THE sha256 OF THE DUMP (.gsa) THAT YthgokmjcebmgaaaProg.lean LOADS. Nothing in Lean hashes anything: it is a label: what it is worth is what the hold of that sum in a sandbox is worth. -/
noncomputable def Try.pinned : Pinned := { name := "ythgokmjcebmgaaa", sum := "8ee56efdaedc40adf45b1e349698c374d931f0cb7bbfac14b2caacfb9ddc03f0", checked := Try.checked }
namespace Rows
def none {H : Type} : Left H := { results := [], args := [] }

/-- 'laws.FnExactConstants': WHATEVER THE INPUT: true; the input reads as it did. -/
def fnExactConstantsSpec : ChangeSpec := { name := "fnExactConstants", fn := fun _ => fun
  | [] => { results := [.lit (.bool true)], args := [] }
  | _ => none }
def fnExactConstantsRow : OpenClaim := { program := "ythgokmjcebmgaaa", sum := "8ee56efdaedc40adf45b1e349698c374d931f0cb7bbfac14b2caacfb9ddc03f0", func := "loop.example/g01011/laws.FnExactConstants", spec := "fnExactConstants", apart := false }
def FnExactConstantsSaid : Prop := fnExactConstantsRow.holds Try.pinned (OpenSpec.ofChange fnExactConstantsSpec)

/-- ITS FALSE NEIGHBOUR: 'it returns false'. Refute it at one input. -/
def fnExactConstantsWrong : ChangeSpec := { name := "fnExactConstants", fn := fun _ => fun
  | [] => { results := [.lit (.bool false)], args := [] }
  | _ => none }
def FnExactConstantsWrongFalsely : Prop := fnExactConstantsRow.holds Try.pinned (OpenSpec.ofChange fnExactConstantsWrong)

/-- 'laws.FnExactCodeName': WHATEVER THE INPUT: true; the input reads as it did. -/
def fnExactCodeNameSpec : ChangeSpec := { name := "fnExactCodeName", fn := fun _ => fun
  | [d] => { results := [.lit (.bool true)], args := [d] }
  | _ => none }
def fnExactCodeNameRow : OpenClaim := { program := "ythgokmjcebmgaaa", sum := "8ee56efdaedc40adf45b1e349698c374d931f0cb7bbfac14b2caacfb9ddc03f0", func := "loop.example/g01011/laws.FnExactCodeName", spec := "fnExactCodeName", apart := false }
def FnExactCodeNameSaid : Prop := fnExactCodeNameRow.holds Try.pinned (OpenSpec.ofChange fnExactCodeNameSpec)

/-- ITS FALSE NEIGHBOUR: 'it returns false'. Refute it at one input. -/
def fnExactCodeNameWrong : ChangeSpec := { name := "fnExactCodeName", fn := fun _ => fun
  | [d] => { results := [.lit (.bool false)], args := [d] }
  | _ => none }
def FnExactCodeNameWrongFalsely : Prop := fnExactCodeNameRow.holds Try.pinned (OpenSpec.ofChange fnExactCodeNameWrong)

/-- 'laws.FnExactIsName': WHATEVER THE INPUT: true; the input reads as it did. -/
def fnExactIsNameSpec : ChangeSpec := { name := "fnExactIsName", fn := fun _ => fun
  | [d] => { results := [.lit (.bool true)], args := [d] }
  | _ => none }
def fnExactIsNameRow : OpenClaim := { program := "ythgokmjcebmgaaa", sum := "8ee56efdaedc40adf45b1e349698c374d931f0cb7bbfac14b2caacfb9ddc03f0", func := "loop.example/g01011/laws.FnExactIsName", spec := "fnExactIsName", apart := false }
def FnExactIsNameSaid : Prop := fnExactIsNameRow.holds Try.pinned (OpenSpec.ofChange fnExactIsNameSpec)

/-- ITS FALSE NEIGHBOUR: 'it returns false'. Refute it at one input. -/
def fnExactIsNameWrong : ChangeSpec := { name := "fnExactIsName", fn := fun _ => fun
  | [d] => { results := [.lit (.bool false)], args := [d] }
  | _ => none }
def FnExactIsNameWrongFalsely : Prop := fnExactIsNameRow.holds Try.pinned (OpenSpec.ofChange fnExactIsNameWrong)

/-- 'laws.FnExactCrc16': WHATEVER THE INPUT: true; the input reads as it did. -/
def fnExactCrc16Spec : ChangeSpec := { name := "fnExactCrc16", fn := fun _ => fun
  | [d1, d2] => { results := [.lit (.bool true)], args := [d1, d2] }
  | _ => none }
def fnExactCrc16Row : OpenClaim := { program := "ythgokmjcebmgaaa", sum := "8ee56efdaedc40adf45b1e349698c374d931f0cb7bbfac14b2caacfb9ddc03f0", func := "loop.example/g01011/laws.FnExactCrc16", spec := "fnExactCrc16", apart := false }
def FnExactCrc16Said : Prop := fnExactCrc16Row.holds Try.pinned (OpenSpec.ofChange fnExactCrc16Spec)

/-- ITS FALSE NEIGHBOUR: 'it returns false'. Refute it at one input. -/
def fnExactCrc16Wrong : ChangeSpec := { name := "fnExactCrc16", fn := fun _ => fun
  | [d1, d2] => { results := [.lit (.bool false)], args := [d1, d2] }
  | _ => none }
def FnExactCrc16WrongFalsely : Prop := fnExactCrc16Row.holds Try.pinned (OpenSpec.ofChange fnExactCrc16Wrong)

/-- 'laws.FnExactRootOf': WHATEVER THE INPUT: true; the input reads as it did. -/
def fnExactRootOfSpec : ChangeSpec := { name := "fnExactRootOf", fn := fun _ => fun
  | [d] => { results := [.lit (.bool true)], args := [d] }
  | _ => none }
def fnExactRootOfRow : OpenClaim := { program := "ythgokmjcebmgaaa", sum := "8ee56efdaedc40adf45b1e349698c374d931f0cb7bbfac14b2caacfb9ddc03f0", func := "loop.example/g01011/laws.FnExactRootOf", spec := "fnExactRootOf", unfollowed := true, recurses := true, apart := false }
def FnExactRootOfSaid : Prop := fnExactRootOfRow.holds Try.pinned (OpenSpec.ofChange fnExactRootOfSpec)

/-- ITS FALSE NEIGHBOUR: 'it returns false'. Refute it at one input. -/
def fnExactRootOfWrong : ChangeSpec := { name := "fnExactRootOf", fn := fun _ => fun
  | [d] => { results := [.lit (.bool false)], args := [d] }
  | _ => none }
def FnExactRootOfWrongFalsely : Prop := fnExactRootOfRow.holds Try.pinned (OpenSpec.ofChange fnExactRootOfWrong)

/-- 'laws.FnExactDivRound': WHATEVER THE INPUT: true; the input reads as it did. -/
def fnExactDivRoundSpec : ChangeSpec := { name := "fnExactDivRound", fn := fun _ => fun
  | [d1, d2] => { results := [.lit (.bool true)], args := [d1, d2] }
  | _ => none }
def fnExactDivRoundRow : OpenClaim := { program := "ythgokmjcebmgaaa", sum := "8ee56efdaedc40adf45b1e349698c374d931f0cb7bbfac14b2caacfb9ddc03f0", func := "loop.example/g01011/laws.FnExactDivRound", spec := "fnExactDivRound", apart := false }
def FnExactDivRoundSaid : Prop := fnExactDivRoundRow.holds Try.pinned (OpenSpec.ofChange fnExactDivRoundSpec)

/-- ITS FALSE NEIGHBOUR: 'it returns false'. Refute it at one input. -/
def fnExactDivRoundWrong : ChangeSpec := { name := "fnExactDivRound", fn := fun _ => fun
  | [d1, d2] => { results := [.lit (.bool false)], args := [d1, d2] }
  | _ => none }
def FnExactDivRoundWrongFalsely : Prop := fnExactDivRoundRow.holds Try.pinned (OpenSpec.ofChange fnExactDivRoundWrong)

/-- 'laws.FnExactEnergyOf': WHATEVER THE INPUT: true; the input reads as it did. -/
def fnExactEnergyOfSpec : ChangeSpec := { name := "fnExactEnergyOf", fn := fun _ => fun
  | [d1, d2] => { results := [.lit (.bool true)], args := [d1, d2] }
  | _ => none }
def fnExactEnergyOfRow : OpenClaim := { program := "ythgokmjcebmgaaa", sum := "8ee56efdaedc40adf45b1e349698c374d931f0cb7bbfac14b2caacfb9ddc03f0", func := "loop.example/g01011/laws.FnExactEnergyOf", spec := "fnExactEnergyOf", apart := false }
def FnExactEnergyOfSaid : Prop := fnExactEnergyOfRow.holds Try.pinned (OpenSpec.ofChange fnExactEnergyOfSpec)

/-- ITS FALSE NEIGHBOUR: 'it returns false'. Refute it at one input. -/
def fnExactEnergyOfWrong : ChangeSpec := { name := "fnExactEnergyOf", fn := fun _ => fun
  | [d1, d2] => { results := [.lit (.bool false)], args := [d1, d2] }
  | _ => none }
def FnExactEnergyOfWrongFalsely : Prop := fnExactEnergyOfRow.holds Try.pinned (OpenSpec.ofChange fnExactEnergyOfWrong)

/-- 'laws.FnExactWaterFor': WHATEVER THE INPUT: true; the input reads as it did. -/
def fnExactWaterForSpec : ChangeSpec := { name := "fnExactWaterFor", fn := fun _ => fun
  | [d1, d2, d3] => { results := [.lit (.bool true)], args := [d1, d2, d3] }
  | _ => none }
def fnExactWaterForRow : OpenClaim := { program := "ythgokmjcebmgaaa", sum := "8ee56efdaedc40adf45b1e349698c374d931f0cb7bbfac14b2caacfb9ddc03f0", func := "loop.example/g01011/laws.FnExactWaterFor", spec := "fnExactWaterFor", apart := false }
def FnExactWaterForSaid : Prop := fnExactWaterForRow.holds Try.pinned (OpenSpec.ofChange fnExactWaterForSpec)

/-- ITS FALSE NEIGHBOUR: 'it returns false'. Refute it at one input. -/
def fnExactWaterForWrong : ChangeSpec := { name := "fnExactWaterFor", fn := fun _ => fun
  | [d1, d2, d3] => { results := [.lit (.bool false)], args := [d1, d2, d3] }
  | _ => none }
def FnExactWaterForWrongFalsely : Prop := fnExactWaterForRow.holds Try.pinned (OpenSpec.ofChange fnExactWaterForWrong)

/-- 'laws.FnExactHeatFlow': WHATEVER THE INPUT: true; the input reads as it did. -/
def fnExactHeatFlowSpec : ChangeSpec := { name := "fnExactHeatFlow", fn := fun _ => fun
  | [d1, d2, d3] => { results := [.lit (.bool true)], args := [d1, d2, d3] }
  | _ => none }
def fnExactHeatFlowRow : OpenClaim := { program := "ythgokmjcebmgaaa", sum := "8ee56efdaedc40adf45b1e349698c374d931f0cb7bbfac14b2caacfb9ddc03f0", func := "loop.example/g01011/laws.FnExactHeatFlow", spec := "fnExactHeatFlow", apart := false }
def FnExactHeatFlowSaid : Prop := fnExactHeatFlowRow.holds Try.pinned (OpenSpec.ofChange fnExactHeatFlowSpec)

/-- ITS FALSE NEIGHBOUR: 'it returns false'. Refute it at one input. -/
def fnExactHeatFlowWrong : ChangeSpec := { name := "fnExactHeatFlow", fn := fun _ => fun
  | [d1, d2, d3] => { results := [.lit (.bool false)], args := [d1, d2, d3] }
  | _ => none }
def FnExactHeatFlowWrongFalsely : Prop := fnExactHeatFlowRow.holds Try.pinned (OpenSpec.ofChange fnExactHeatFlowWrong)

/-- 'laws.FnExactHeatPower': WHATEVER THE INPUT: true; the input reads as it did. -/
def fnExactHeatPowerSpec : ChangeSpec := { name := "fnExactHeatPower", fn := fun _ => fun
  | [d1, d2, d3] => { results := [.lit (.bool true)], args := [d1, d2, d3] }
  | _ => none }
def fnExactHeatPowerRow : OpenClaim := { program := "ythgokmjcebmgaaa", sum := "8ee56efdaedc40adf45b1e349698c374d931f0cb7bbfac14b2caacfb9ddc03f0", func := "loop.example/g01011/laws.FnExactHeatPower", spec := "fnExactHeatPower", apart := false }
def FnExactHeatPowerSaid : Prop := fnExactHeatPowerRow.holds Try.pinned (OpenSpec.ofChange fnExactHeatPowerSpec)

/-- ITS FALSE NEIGHBOUR: 'it returns false'. Refute it at one input. -/
def fnExactHeatPowerWrong : ChangeSpec := { name := "fnExactHeatPower", fn := fun _ => fun
  | [d1, d2, d3] => { results := [.lit (.bool false)], args := [d1, d2, d3] }
  | _ => none }
def FnExactHeatPowerWrongFalsely : Prop := fnExactHeatPowerRow.holds Try.pinned (OpenSpec.ofChange fnExactHeatPowerWrong)

/-- 'laws.FnExactPumpPower': WHATEVER THE INPUT: true; the input reads as it did. -/
def fnExactPumpPowerSpec : ChangeSpec := { name := "fnExactPumpPower", fn := fun _ => fun
  | [d1, d2] => { results := [.lit (.bool true)], args := [d1, d2] }
  | _ => none }
def fnExactPumpPowerRow : OpenClaim := { program := "ythgokmjcebmgaaa", sum := "8ee56efdaedc40adf45b1e349698c374d931f0cb7bbfac14b2caacfb9ddc03f0", func := "loop.example/g01011/laws.FnExactPumpPower", spec := "fnExactPumpPower", apart := false }
def FnExactPumpPowerSaid : Prop := fnExactPumpPowerRow.holds Try.pinned (OpenSpec.ofChange fnExactPumpPowerSpec)

/-- ITS FALSE NEIGHBOUR: 'it returns false'. Refute it at one input. -/
def fnExactPumpPowerWrong : ChangeSpec := { name := "fnExactPumpPower", fn := fun _ => fun
  | [d1, d2] => { results := [.lit (.bool false)], args := [d1, d2] }
  | _ => none }
def FnExactPumpPowerWrongFalsely : Prop := fnExactPumpPowerRow.holds Try.pinned (OpenSpec.ofChange fnExactPumpPowerWrong)

/-- 'laws.FnExactSystemHead': WHATEVER THE INPUT: true; the input reads as it did. -/
def fnExactSystemHeadSpec : ChangeSpec := { name := "fnExactSystemHead", fn := fun _ => fun
  | [d1, d2, d3] => { results := [.lit (.bool true)], args := [d1, d2, d3] }
  | _ => none }
def fnExactSystemHeadRow : OpenClaim := { program := "ythgokmjcebmgaaa", sum := "8ee56efdaedc40adf45b1e349698c374d931f0cb7bbfac14b2caacfb9ddc03f0", func := "loop.example/g01011/laws.FnExactSystemHead", spec := "fnExactSystemHead", apart := false }
def FnExactSystemHeadSaid : Prop := fnExactSystemHeadRow.holds Try.pinned (OpenSpec.ofChange fnExactSystemHeadSpec)

/-- ITS FALSE NEIGHBOUR: 'it returns false'. Refute it at one input. -/
def fnExactSystemHeadWrong : ChangeSpec := { name := "fnExactSystemHead", fn := fun _ => fun
  | [d1, d2, d3] => { results := [.lit (.bool false)], args := [d1, d2, d3] }
  | _ => none }
def FnExactSystemHeadWrongFalsely : Prop := fnExactSystemHeadRow.holds Try.pinned (OpenSpec.ofChange fnExactSystemHeadWrong)

/- THE SECOND FORM. 'bulk': how many values and letters a reading holds, each counted each time it is reached (what is shared counts as often as it is met; a slice's spare places count too). A statement '..UptoSaid' is the law's where the arguments, and the package variables that the reading takes, are together of bulk at most 1048576: NARROWER than '..Said'. Prove '..Said' where nothing that the law and all that it calls make is longer than what came in: it says more and counts as full. Else prove '..UptoSaid'. A law counts once. -/
mutual
def uptoBulk {H : Type} : DataW H → Nat
  | .lit (.string bytes) => bytes.length + 1
  | .lit _ => 1
  | .nil => 1
  | .ptr d => uptoBulk d + 1
  | .slice elems spare => uptoBulkAll elems + uptoBulkAll spare + 1
  | .agg parts => uptoBulkAll parts + 1
  | .iface _ d => uptoBulk d + 1
  | .map entries => uptoBulkEntries entries + 1
  | .held _ => 1
def uptoBulkAll {H : Type} : List (DataW H) → Nat
  | [] => 0
  | d :: r => uptoBulk d + uptoBulkAll r
def uptoBulkEntries {H : Type} : List (Lit × DataW H) → Nat
  | [] => 0
  | x :: r => uptoBulkEntry x + uptoBulkEntries r
def uptoBulkEntry {H : Type} : Lit × DataW H → Nat
  | (.string bytes, d) => bytes.length + uptoBulk d + 1
  | (_, d) => uptoBulk d + 1
 end
def uptoSmall : (H : Type) → List (DataW H) → Bool := fun _ ds => decide (uptoBulkAll ds ≤ 1048576)
def OpenSpec.upto (s : _root_.Go.ChangeSpec) : _root_.Go.OpenSpec := { _root_.Go.OpenSpec.ofChange s with cond := some uptoSmall }

/-- 'laws.FnExactConstants', WHERE WHAT IT READS IS OF BULK AT MOST 1048576: true; the input reads as it did. -/
def fnExactConstantsUptoRow : OpenClaim := { program := "ythgokmjcebmgaaa", sum := "8ee56efdaedc40adf45b1e349698c374d931f0cb7bbfac14b2caacfb9ddc03f0", func := "loop.example/g01011/laws.FnExactConstants", spec := "fnExactConstants", apart := false, narrowed := true }
def FnExactConstantsUptoSaid : Prop := fnExactConstantsUptoRow.holds Try.pinned (OpenSpec.upto fnExactConstantsSpec)

/-- 'laws.FnExactCodeName', WHERE WHAT IT READS IS OF BULK AT MOST 1048576: true; the input reads as it did. -/
def fnExactCodeNameUptoRow : OpenClaim := { program := "ythgokmjcebmgaaa", sum := "8ee56efdaedc40adf45b1e349698c374d931f0cb7bbfac14b2caacfb9ddc03f0", func := "loop.example/g01011/laws.FnExactCodeName", spec := "fnExactCodeName", apart := false, narrowed := true }
def FnExactCodeNameUptoSaid : Prop := fnExactCodeNameUptoRow.holds Try.pinned (OpenSpec.upto fnExactCodeNameSpec)

/-- 'laws.FnExactIsName', WHERE WHAT IT READS IS OF BULK AT MOST 1048576: true; the input reads as it did. -/
def fnExactIsNameUptoRow : OpenClaim := { program := "ythgokmjcebmgaaa", sum := "8ee56efdaedc40adf45b1e349698c374d931f0cb7bbfac14b2caacfb9ddc03f0", func := "loop.example/g01011/laws.FnExactIsName", spec := "fnExactIsName", apart := false, narrowed := true }
def FnExactIsNameUptoSaid : Prop := fnExactIsNameUptoRow.holds Try.pinned (OpenSpec.upto fnExactIsNameSpec)

/-- 'laws.FnExactCrc16', WHERE WHAT IT READS IS OF BULK AT MOST 1048576: true; the input reads as it did. -/
def fnExactCrc16UptoRow : OpenClaim := { program := "ythgokmjcebmgaaa", sum := "8ee56efdaedc40adf45b1e349698c374d931f0cb7bbfac14b2caacfb9ddc03f0", func := "loop.example/g01011/laws.FnExactCrc16", spec := "fnExactCrc16", apart := false, narrowed := true }
def FnExactCrc16UptoSaid : Prop := fnExactCrc16UptoRow.holds Try.pinned (OpenSpec.upto fnExactCrc16Spec)

/-- 'laws.FnExactRootOf', WHERE WHAT IT READS IS OF BULK AT MOST 1048576: true; the input reads as it did. -/
def fnExactRootOfUptoRow : OpenClaim := { program := "ythgokmjcebmgaaa", sum := "8ee56efdaedc40adf45b1e349698c374d931f0cb7bbfac14b2caacfb9ddc03f0", func := "loop.example/g01011/laws.FnExactRootOf", spec := "fnExactRootOf", unfollowed := true, recurses := true, apart := false, narrowed := true }
def FnExactRootOfUptoSaid : Prop := fnExactRootOfUptoRow.holds Try.pinned (OpenSpec.upto fnExactRootOfSpec)

/-- 'laws.FnExactDivRound', WHERE WHAT IT READS IS OF BULK AT MOST 1048576: true; the input reads as it did. -/
def fnExactDivRoundUptoRow : OpenClaim := { program := "ythgokmjcebmgaaa", sum := "8ee56efdaedc40adf45b1e349698c374d931f0cb7bbfac14b2caacfb9ddc03f0", func := "loop.example/g01011/laws.FnExactDivRound", spec := "fnExactDivRound", apart := false, narrowed := true }
def FnExactDivRoundUptoSaid : Prop := fnExactDivRoundUptoRow.holds Try.pinned (OpenSpec.upto fnExactDivRoundSpec)

/-- 'laws.FnExactEnergyOf', WHERE WHAT IT READS IS OF BULK AT MOST 1048576: true; the input reads as it did. -/
def fnExactEnergyOfUptoRow : OpenClaim := { program := "ythgokmjcebmgaaa", sum := "8ee56efdaedc40adf45b1e349698c374d931f0cb7bbfac14b2caacfb9ddc03f0", func := "loop.example/g01011/laws.FnExactEnergyOf", spec := "fnExactEnergyOf", apart := false, narrowed := true }
def FnExactEnergyOfUptoSaid : Prop := fnExactEnergyOfUptoRow.holds Try.pinned (OpenSpec.upto fnExactEnergyOfSpec)

/-- 'laws.FnExactWaterFor', WHERE WHAT IT READS IS OF BULK AT MOST 1048576: true; the input reads as it did. -/
def fnExactWaterForUptoRow : OpenClaim := { program := "ythgokmjcebmgaaa", sum := "8ee56efdaedc40adf45b1e349698c374d931f0cb7bbfac14b2caacfb9ddc03f0", func := "loop.example/g01011/laws.FnExactWaterFor", spec := "fnExactWaterFor", apart := false, narrowed := true }
def FnExactWaterForUptoSaid : Prop := fnExactWaterForUptoRow.holds Try.pinned (OpenSpec.upto fnExactWaterForSpec)

/-- 'laws.FnExactHeatFlow', WHERE WHAT IT READS IS OF BULK AT MOST 1048576: true; the input reads as it did. -/
def fnExactHeatFlowUptoRow : OpenClaim := { program := "ythgokmjcebmgaaa", sum := "8ee56efdaedc40adf45b1e349698c374d931f0cb7bbfac14b2caacfb9ddc03f0", func := "loop.example/g01011/laws.FnExactHeatFlow", spec := "fnExactHeatFlow", apart := false, narrowed := true }
def FnExactHeatFlowUptoSaid : Prop := fnExactHeatFlowUptoRow.holds Try.pinned (OpenSpec.upto fnExactHeatFlowSpec)

/-- 'laws.FnExactHeatPower', WHERE WHAT IT READS IS OF BULK AT MOST 1048576: true; the input reads as it did. -/
def fnExactHeatPowerUptoRow : OpenClaim := { program := "ythgokmjcebmgaaa", sum := "8ee56efdaedc40adf45b1e349698c374d931f0cb7bbfac14b2caacfb9ddc03f0", func := "loop.example/g01011/laws.FnExactHeatPower", spec := "fnExactHeatPower", apart := false, narrowed := true }
def FnExactHeatPowerUptoSaid : Prop := fnExactHeatPowerUptoRow.holds Try.pinned (OpenSpec.upto fnExactHeatPowerSpec)

/-- 'laws.FnExactPumpPower', WHERE WHAT IT READS IS OF BULK AT MOST 1048576: true; the input reads as it did. -/
def fnExactPumpPowerUptoRow : OpenClaim := { program := "ythgokmjcebmgaaa", sum := "8ee56efdaedc40adf45b1e349698c374d931f0cb7bbfac14b2caacfb9ddc03f0", func := "loop.example/g01011/laws.FnExactPumpPower", spec := "fnExactPumpPower", apart := false, narrowed := true }
def FnExactPumpPowerUptoSaid : Prop := fnExactPumpPowerUptoRow.holds Try.pinned (OpenSpec.upto fnExactPumpPowerSpec)

/-- 'laws.FnExactSystemHead', WHERE WHAT IT READS IS OF BULK AT MOST 1048576: true; the input reads as it did. -/
def fnExactSystemHeadUptoRow : OpenClaim := { program := "ythgokmjcebmgaaa", sum := "8ee56efdaedc40adf45b1e349698c374d931f0cb7bbfac14b2caacfb9ddc03f0", func := "loop.example/g01011/laws.FnExactSystemHead", spec := "fnExactSystemHead", apart := false, narrowed := true }
def FnExactSystemHeadUptoSaid : Prop := fnExactSystemHeadUptoRow.holds Try.pinned (OpenSpec.upto fnExactSystemHeadSpec)

end Rows
end Go.Proofs.Ythgokmjcebmgaaa
