/-
  No cell of these rows narrows 'for every input' (looked for: loops, veiled, ifaces, maps, wideKeys, modest, calm, conditions, laid).
  DERIVED. THE GIVEN ROWS OF THIS SEAT. 13 by the template 'for every input the law returns true; each argument reads behind the call as it read before'; 0 by the template 'total and deterministic' (their statements: YteifocbmholocaaTotals.lean).
  GIVEN WITH THE SEED: the statements are not yours to turn. If you find one false, say at which input.
  Laid BY PROGRAM, IN A SANDBOX (cutbox-rows.mjs): the forced cells as the released guide's own fill.sh prints them over the translation 62a993057f99f8d1… (all of the seat's roots in one cut). By AI agents, Wed Nov 11 2026. No macro, syntax, notation, axiom, sorry.
-/
import Derived.Test.YteifocbmholocaaChecked
import GoSem.Claim
import GoSem.ClaimJoined
import GoSem.ClaimMapViews
import Derived.JoinedTies
import Derived.KernelRfl
namespace Go.Proofs.Yteifocbmholocaa
/- THE CELL 'sum', in the pinned program and in every row, IS THE sha256 OF THE DUMP (.gsa) THAT YteifocbmholocaaProg.lean LOADS. Nothing in Lean hashes anything: it is a label: what it is worth is what the hold of that sum in a sandbox is worth. -/
noncomputable def Try.pinned : Pinned := { name := "yteifocbmholocaa", sum := "62a993057f99f8d1cb993c640f712693f59a0ba5e7b66dcd42742319b77266f0", checked := Try.checked }
namespace Rows
def none {H : Type} : Left H := { results := [], args := [] }

/-- 'laws.FnExactBlend': WHATEVER THE INPUT: true; the input reads as it did. -/
def fnExactBlendSpec : ChangeSpec := { name := "fnExactBlend", fn := fun _ => fun
  | [d1, d2, d3, d4, d5] => { results := [.lit (.bool true)], args := [d1, d2, d3, d4, d5] }
  | _ => none }
def fnExactBlendRow : OpenClaim := { program := "yteifocbmholocaa", sum := "62a993057f99f8d1cb993c640f712693f59a0ba5e7b66dcd42742319b77266f0", func := "loop.example/g01011/laws.FnExactBlend", spec := "fnExactBlend", apart := false }
def FnExactBlendSaid : Prop := fnExactBlendRow.holds Try.pinned (OpenSpec.ofChange fnExactBlendSpec)

/-- ITS FALSE NEIGHBOUR: 'it returns false'. Refute it at one input. -/
def fnExactBlendWrong : ChangeSpec := { name := "fnExactBlend", fn := fun _ => fun
  | [d1, d2, d3, d4, d5] => { results := [.lit (.bool false)], args := [d1, d2, d3, d4, d5] }
  | _ => none }
def FnExactBlendWrongFalsely : Prop := fnExactBlendRow.holds Try.pinned (OpenSpec.ofChange fnExactBlendWrong)

/-- 'laws.FnExactExpandedVolume': WHATEVER THE INPUT: true; the input reads as it did. -/
def fnExactExpandedVolumeSpec : ChangeSpec := { name := "fnExactExpandedVolume", fn := fun _ => fun
  | [d1, d2, d3] => { results := [.lit (.bool true)], args := [d1, d2, d3] }
  | _ => none }
def fnExactExpandedVolumeRow : OpenClaim := { program := "yteifocbmholocaa", sum := "62a993057f99f8d1cb993c640f712693f59a0ba5e7b66dcd42742319b77266f0", func := "loop.example/g01011/laws.FnExactExpandedVolume", spec := "fnExactExpandedVolume", apart := false }
def FnExactExpandedVolumeSaid : Prop := fnExactExpandedVolumeRow.holds Try.pinned (OpenSpec.ofChange fnExactExpandedVolumeSpec)

/-- ITS FALSE NEIGHBOUR: 'it returns false'. Refute it at one input. -/
def fnExactExpandedVolumeWrong : ChangeSpec := { name := "fnExactExpandedVolume", fn := fun _ => fun
  | [d1, d2, d3] => { results := [.lit (.bool false)], args := [d1, d2, d3] }
  | _ => none }
def FnExactExpandedVolumeWrongFalsely : Prop := fnExactExpandedVolumeRow.holds Try.pinned (OpenSpec.ofChange fnExactExpandedVolumeWrong)

/-- 'laws.FnExactHeadPressure': WHATEVER THE INPUT: true; the input reads as it did. -/
def fnExactHeadPressureSpec : ChangeSpec := { name := "fnExactHeadPressure", fn := fun _ => fun
  | [d1, d2] => { results := [.lit (.bool true)], args := [d1, d2] }
  | _ => none }
def fnExactHeadPressureRow : OpenClaim := { program := "yteifocbmholocaa", sum := "62a993057f99f8d1cb993c640f712693f59a0ba5e7b66dcd42742319b77266f0", func := "loop.example/g01011/laws.FnExactHeadPressure", spec := "fnExactHeadPressure", apart := false }
def FnExactHeadPressureSaid : Prop := fnExactHeadPressureRow.holds Try.pinned (OpenSpec.ofChange fnExactHeadPressureSpec)

/-- ITS FALSE NEIGHBOUR: 'it returns false'. Refute it at one input. -/
def fnExactHeadPressureWrong : ChangeSpec := { name := "fnExactHeadPressure", fn := fun _ => fun
  | [d1, d2] => { results := [.lit (.bool false)], args := [d1, d2] }
  | _ => none }
def FnExactHeadPressureWrongFalsely : Prop := fnExactHeadPressureRow.holds Try.pinned (OpenSpec.ofChange fnExactHeadPressureWrong)

/-- 'laws.FnExactWaterDensity': WHATEVER THE INPUT: true; the input reads as it did. -/
def fnExactWaterDensitySpec : ChangeSpec := { name := "fnExactWaterDensity", fn := fun _ => fun
  | [d] => { results := [.lit (.bool true)], args := [d] }
  | _ => none }
def fnExactWaterDensityRow : OpenClaim := { program := "yteifocbmholocaa", sum := "62a993057f99f8d1cb993c640f712693f59a0ba5e7b66dcd42742319b77266f0", func := "loop.example/g01011/laws.FnExactWaterDensity", spec := "fnExactWaterDensity", apart := false }
def FnExactWaterDensitySaid : Prop := fnExactWaterDensityRow.holds Try.pinned (OpenSpec.ofChange fnExactWaterDensitySpec)

/-- ITS FALSE NEIGHBOUR: 'it returns false'. Refute it at one input. -/
def fnExactWaterDensityWrong : ChangeSpec := { name := "fnExactWaterDensity", fn := fun _ => fun
  | [d] => { results := [.lit (.bool false)], args := [d] }
  | _ => none }
def FnExactWaterDensityWrongFalsely : Prop := fnExactWaterDensityRow.holds Try.pinned (OpenSpec.ofChange fnExactWaterDensityWrong)

/-- 'laws.FnExactBoilingAt': WHATEVER THE INPUT: true; the input reads as it did. -/
def fnExactBoilingAtSpec : ChangeSpec := { name := "fnExactBoilingAt", fn := fun _ => fun
  | [d] => { results := [.lit (.bool true)], args := [d] }
  | _ => none }
def fnExactBoilingAtRow : OpenClaim := { program := "yteifocbmholocaa", sum := "62a993057f99f8d1cb993c640f712693f59a0ba5e7b66dcd42742319b77266f0", func := "loop.example/g01011/laws.FnExactBoilingAt", spec := "fnExactBoilingAt", apart := false }
def FnExactBoilingAtSaid : Prop := fnExactBoilingAtRow.holds Try.pinned (OpenSpec.ofChange fnExactBoilingAtSpec)

/-- ITS FALSE NEIGHBOUR: 'it returns false'. Refute it at one input. -/
def fnExactBoilingAtWrong : ChangeSpec := { name := "fnExactBoilingAt", fn := fun _ => fun
  | [d] => { results := [.lit (.bool false)], args := [d] }
  | _ => none }
def FnExactBoilingAtWrongFalsely : Prop := fnExactBoilingAtRow.holds Try.pinned (OpenSpec.ofChange fnExactBoilingAtWrong)

/-- 'laws.FnExactMarginTo': WHATEVER THE INPUT: true; the input reads as it did. -/
def fnExactMarginToSpec : ChangeSpec := { name := "fnExactMarginTo", fn := fun _ => fun
  | [d1, d2] => { results := [.lit (.bool true)], args := [d1, d2] }
  | _ => none }
def fnExactMarginToRow : OpenClaim := { program := "yteifocbmholocaa", sum := "62a993057f99f8d1cb993c640f712693f59a0ba5e7b66dcd42742319b77266f0", func := "loop.example/g01011/laws.FnExactMarginTo", spec := "fnExactMarginTo", apart := false }
def FnExactMarginToSaid : Prop := fnExactMarginToRow.holds Try.pinned (OpenSpec.ofChange fnExactMarginToSpec)

/-- ITS FALSE NEIGHBOUR: 'it returns false'. Refute it at one input. -/
def fnExactMarginToWrong : ChangeSpec := { name := "fnExactMarginTo", fn := fun _ => fun
  | [d1, d2] => { results := [.lit (.bool false)], args := [d1, d2] }
  | _ => none }
def FnExactMarginToWrongFalsely : Prop := fnExactMarginToRow.holds Try.pinned (OpenSpec.ofChange fnExactMarginToWrong)

/-- 'laws.FnExactFlowForPower': WHATEVER THE INPUT: true; the input reads as it did. -/
def fnExactFlowForPowerSpec : ChangeSpec := { name := "fnExactFlowForPower", fn := fun _ => fun
  | [d1, d2, d3] => { results := [.lit (.bool true)], args := [d1, d2, d3] }
  | _ => none }
def fnExactFlowForPowerRow : OpenClaim := { program := "yteifocbmholocaa", sum := "62a993057f99f8d1cb993c640f712693f59a0ba5e7b66dcd42742319b77266f0", func := "loop.example/g01011/laws.FnExactFlowForPower", spec := "fnExactFlowForPower", unfollowed := true, recurses := true, apart := false }
def FnExactFlowForPowerSaid : Prop := fnExactFlowForPowerRow.holds Try.pinned (OpenSpec.ofChange fnExactFlowForPowerSpec)

/-- ITS FALSE NEIGHBOUR: 'it returns false'. Refute it at one input. -/
def fnExactFlowForPowerWrong : ChangeSpec := { name := "fnExactFlowForPower", fn := fun _ => fun
  | [d1, d2, d3] => { results := [.lit (.bool false)], args := [d1, d2, d3] }
  | _ => none }
def FnExactFlowForPowerWrongFalsely : Prop := fnExactFlowForPowerRow.holds Try.pinned (OpenSpec.ofChange fnExactFlowForPowerWrong)

/-- 'laws.FnExactSteamPressure': WHATEVER THE INPUT: true; the input reads as it did. -/
def fnExactSteamPressureSpec : ChangeSpec := { name := "fnExactSteamPressure", fn := fun _ => fun
  | [d] => { results := [.lit (.bool true)], args := [d] }
  | _ => none }
def fnExactSteamPressureRow : OpenClaim := { program := "yteifocbmholocaa", sum := "62a993057f99f8d1cb993c640f712693f59a0ba5e7b66dcd42742319b77266f0", func := "loop.example/g01011/laws.FnExactSteamPressure", spec := "fnExactSteamPressure", unfollowed := true, recurses := true, apart := false }
def FnExactSteamPressureSaid : Prop := fnExactSteamPressureRow.holds Try.pinned (OpenSpec.ofChange fnExactSteamPressureSpec)

/-- ITS FALSE NEIGHBOUR: 'it returns false'. Refute it at one input. -/
def fnExactSteamPressureWrong : ChangeSpec := { name := "fnExactSteamPressure", fn := fun _ => fun
  | [d] => { results := [.lit (.bool false)], args := [d] }
  | _ => none }
def FnExactSteamPressureWrongFalsely : Prop := fnExactSteamPressureRow.holds Try.pinned (OpenSpec.ofChange fnExactSteamPressureWrong)

/-- 'laws.FnExactMixWater': WHATEVER THE INPUT: true; the input reads as it did. -/
def fnExactMixWaterSpec : ChangeSpec := { name := "fnExactMixWater", fn := fun _ => fun
  | [d1, d2] => { results := [.lit (.bool true)], args := [d1, d2] }
  | _ => none }
def fnExactMixWaterRow : OpenClaim := { program := "yteifocbmholocaa", sum := "62a993057f99f8d1cb993c640f712693f59a0ba5e7b66dcd42742319b77266f0", func := "loop.example/g01011/laws.FnExactMixWater", spec := "fnExactMixWater", unfollowed := true, recurses := true, apart := false }
def FnExactMixWaterSaid : Prop := fnExactMixWaterRow.holds Try.pinned (OpenSpec.ofChange fnExactMixWaterSpec)

/-- ITS FALSE NEIGHBOUR: 'it returns false'. Refute it at one input. -/
def fnExactMixWaterWrong : ChangeSpec := { name := "fnExactMixWater", fn := fun _ => fun
  | [d1, d2] => { results := [.lit (.bool false)], args := [d1, d2] }
  | _ => none }
def FnExactMixWaterWrongFalsely : Prop := fnExactMixWaterRow.holds Try.pinned (OpenSpec.ofChange fnExactMixWaterWrong)

/-- 'laws.FnExactValidPipe': WHATEVER THE INPUT: true; the input reads as it did. -/
def fnExactValidPipeSpec : ChangeSpec := { name := "fnExactValidPipe", fn := fun _ => fun
  | [d] => { results := [.lit (.bool true)], args := [d] }
  | _ => none }
def fnExactValidPipeRow : OpenClaim := { program := "yteifocbmholocaa", sum := "62a993057f99f8d1cb993c640f712693f59a0ba5e7b66dcd42742319b77266f0", func := "loop.example/g01011/laws.FnExactValidPipe", spec := "fnExactValidPipe", apart := false }
def FnExactValidPipeSaid : Prop := fnExactValidPipeRow.holds Try.pinned (OpenSpec.ofChange fnExactValidPipeSpec)

/-- ITS FALSE NEIGHBOUR: 'it returns false'. Refute it at one input. -/
def fnExactValidPipeWrong : ChangeSpec := { name := "fnExactValidPipe", fn := fun _ => fun
  | [d] => { results := [.lit (.bool false)], args := [d] }
  | _ => none }
def FnExactValidPipeWrongFalsely : Prop := fnExactValidPipeRow.holds Try.pinned (OpenSpec.ofChange fnExactValidPipeWrong)

/-- 'laws.FnExactTurnPipe': WHATEVER THE INPUT: true; the input reads as it did. -/
def fnExactTurnPipeSpec : ChangeSpec := { name := "fnExactTurnPipe", fn := fun _ => fun
  | [d] => { results := [.lit (.bool true)], args := [d] }
  | _ => none }
def fnExactTurnPipeRow : OpenClaim := { program := "yteifocbmholocaa", sum := "62a993057f99f8d1cb993c640f712693f59a0ba5e7b66dcd42742319b77266f0", func := "loop.example/g01011/laws.FnExactTurnPipe", spec := "fnExactTurnPipe", apart := false }
def FnExactTurnPipeSaid : Prop := fnExactTurnPipeRow.holds Try.pinned (OpenSpec.ofChange fnExactTurnPipeSpec)

/-- ITS FALSE NEIGHBOUR: 'it returns false'. Refute it at one input. -/
def fnExactTurnPipeWrong : ChangeSpec := { name := "fnExactTurnPipe", fn := fun _ => fun
  | [d] => { results := [.lit (.bool false)], args := [d] }
  | _ => none }
def FnExactTurnPipeWrongFalsely : Prop := fnExactTurnPipeRow.holds Try.pinned (OpenSpec.ofChange fnExactTurnPipeWrong)

/-- 'laws.FnExactFlowFor': WHATEVER THE INPUT: true; the input reads as it did. -/
def fnExactFlowForSpec : ChangeSpec := { name := "fnExactFlowFor", fn := fun _ => fun
  | [d1, d2] => { results := [.lit (.bool true)], args := [d1, d2] }
  | _ => none }
def fnExactFlowForRow : OpenClaim := { program := "yteifocbmholocaa", sum := "62a993057f99f8d1cb993c640f712693f59a0ba5e7b66dcd42742319b77266f0", func := "loop.example/g01011/laws.FnExactFlowFor", spec := "fnExactFlowFor", unfollowed := true, recurses := true, apart := false }
def FnExactFlowForSaid : Prop := fnExactFlowForRow.holds Try.pinned (OpenSpec.ofChange fnExactFlowForSpec)

/-- ITS FALSE NEIGHBOUR: 'it returns false'. Refute it at one input. -/
def fnExactFlowForWrong : ChangeSpec := { name := "fnExactFlowFor", fn := fun _ => fun
  | [d1, d2] => { results := [.lit (.bool false)], args := [d1, d2] }
  | _ => none }
def FnExactFlowForWrongFalsely : Prop := fnExactFlowForRow.holds Try.pinned (OpenSpec.ofChange fnExactFlowForWrong)

/-- 'laws.FnExactWidthFor': WHATEVER THE INPUT: true; the input reads as it did. -/
def fnExactWidthForSpec : ChangeSpec := { name := "fnExactWidthFor", fn := fun _ => fun
  | [d1, d2, d3] => { results := [.lit (.bool true)], args := [d1, d2, d3] }
  | _ => none }
def fnExactWidthForRow : OpenClaim := { program := "yteifocbmholocaa", sum := "62a993057f99f8d1cb993c640f712693f59a0ba5e7b66dcd42742319b77266f0", func := "loop.example/g01011/laws.FnExactWidthFor", spec := "fnExactWidthFor", unfollowed := true, recurses := true, apart := false }
def FnExactWidthForSaid : Prop := fnExactWidthForRow.holds Try.pinned (OpenSpec.ofChange fnExactWidthForSpec)

/-- ITS FALSE NEIGHBOUR: 'it returns false'. Refute it at one input. -/
def fnExactWidthForWrong : ChangeSpec := { name := "fnExactWidthFor", fn := fun _ => fun
  | [d1, d2, d3] => { results := [.lit (.bool false)], args := [d1, d2, d3] }
  | _ => none }
def FnExactWidthForWrongFalsely : Prop := fnExactWidthForRow.holds Try.pinned (OpenSpec.ofChange fnExactWidthForWrong)

/- THE SECOND FORM. 'bulk': how many values and letters a reading holds, each counted each time it is reached (what is shared counts as often as it is met; a slice's spare places count too). A statement '..UptoSaid' is the law's where the arguments, and the package variables that the reading takes, are together of bulk at most 1048576: NARROWER than '..Said'. Prove '..Said' where nothing that the law and all that it calls make is longer than what came in: it says more and counts as full. Else prove '..UptoSaid'. A law counts once. -/
mutual
def uptoBulk {H : Type} : DataW H → Nat
  | .lit (.string bytes) => bytes.length + 1
  | .lit _ => 1
  | .nil => 1
  | .ptr d => uptoBulk d + 1
  | .slice elems spare => uptoBulkAll elems + uptoBulkAll spare + 1
  | .agg parts => uptoBulkAll parts + 1
  | .iface _ d => uptoBulk d + 1
  | .map entries => uptoBulkEntries entries + 1
  | .held _ => 1
def uptoBulkAll {H : Type} : List (DataW H) → Nat
  | [] => 0
  | d :: r => uptoBulk d + uptoBulkAll r
def uptoBulkEntries {H : Type} : List (Lit × DataW H) → Nat
  | [] => 0
  | x :: r => uptoBulkEntry x + uptoBulkEntries r
def uptoBulkEntry {H : Type} : Lit × DataW H → Nat
  | (.string bytes, d) => bytes.length + uptoBulk d + 1
  | (_, d) => uptoBulk d + 1
 end
def uptoSmall : (H : Type) → List (DataW H) → Bool := fun _ ds => decide (uptoBulkAll ds ≤ 1048576)
def OpenSpec.upto (s : _root_.Go.ChangeSpec) : _root_.Go.OpenSpec := { _root_.Go.OpenSpec.ofChange s with cond := some uptoSmall }

/-- 'laws.FnExactBlend', WHERE WHAT IT READS IS OF BULK AT MOST 1048576: true; the input reads as it did. -/
def fnExactBlendUptoRow : OpenClaim := { program := "yteifocbmholocaa", sum := "62a993057f99f8d1cb993c640f712693f59a0ba5e7b66dcd42742319b77266f0", func := "loop.example/g01011/laws.FnExactBlend", spec := "fnExactBlend", apart := false, narrowed := true }
def FnExactBlendUptoSaid : Prop := fnExactBlendUptoRow.holds Try.pinned (OpenSpec.upto fnExactBlendSpec)

/-- 'laws.FnExactExpandedVolume', WHERE WHAT IT READS IS OF BULK AT MOST 1048576: true; the input reads as it did. -/
def fnExactExpandedVolumeUptoRow : OpenClaim := { program := "yteifocbmholocaa", sum := "62a993057f99f8d1cb993c640f712693f59a0ba5e7b66dcd42742319b77266f0", func := "loop.example/g01011/laws.FnExactExpandedVolume", spec := "fnExactExpandedVolume", apart := false, narrowed := true }
def FnExactExpandedVolumeUptoSaid : Prop := fnExactExpandedVolumeUptoRow.holds Try.pinned (OpenSpec.upto fnExactExpandedVolumeSpec)

/-- 'laws.FnExactHeadPressure', WHERE WHAT IT READS IS OF BULK AT MOST 1048576: true; the input reads as it did. -/
def fnExactHeadPressureUptoRow : OpenClaim := { program := "yteifocbmholocaa", sum := "62a993057f99f8d1cb993c640f712693f59a0ba5e7b66dcd42742319b77266f0", func := "loop.example/g01011/laws.FnExactHeadPressure", spec := "fnExactHeadPressure", apart := false, narrowed := true }
def FnExactHeadPressureUptoSaid : Prop := fnExactHeadPressureUptoRow.holds Try.pinned (OpenSpec.upto fnExactHeadPressureSpec)

/-- 'laws.FnExactWaterDensity', WHERE WHAT IT READS IS OF BULK AT MOST 1048576: true; the input reads as it did. -/
def fnExactWaterDensityUptoRow : OpenClaim := { program := "yteifocbmholocaa", sum := "62a993057f99f8d1cb993c640f712693f59a0ba5e7b66dcd42742319b77266f0", func := "loop.example/g01011/laws.FnExactWaterDensity", spec := "fnExactWaterDensity", apart := false, narrowed := true }
def FnExactWaterDensityUptoSaid : Prop := fnExactWaterDensityUptoRow.holds Try.pinned (OpenSpec.upto fnExactWaterDensitySpec)

/-- 'laws.FnExactBoilingAt', WHERE WHAT IT READS IS OF BULK AT MOST 1048576: true; the input reads as it did. -/
def fnExactBoilingAtUptoRow : OpenClaim := { program := "yteifocbmholocaa", sum := "62a993057f99f8d1cb993c640f712693f59a0ba5e7b66dcd42742319b77266f0", func := "loop.example/g01011/laws.FnExactBoilingAt", spec := "fnExactBoilingAt", apart := false, narrowed := true }
def FnExactBoilingAtUptoSaid : Prop := fnExactBoilingAtUptoRow.holds Try.pinned (OpenSpec.upto fnExactBoilingAtSpec)

/-- 'laws.FnExactMarginTo', WHERE WHAT IT READS IS OF BULK AT MOST 1048576: true; the input reads as it did. -/
def fnExactMarginToUptoRow : OpenClaim := { program := "yteifocbmholocaa", sum := "62a993057f99f8d1cb993c640f712693f59a0ba5e7b66dcd42742319b77266f0", func := "loop.example/g01011/laws.FnExactMarginTo", spec := "fnExactMarginTo", apart := false, narrowed := true }
def FnExactMarginToUptoSaid : Prop := fnExactMarginToUptoRow.holds Try.pinned (OpenSpec.upto fnExactMarginToSpec)

/-- 'laws.FnExactFlowForPower', WHERE WHAT IT READS IS OF BULK AT MOST 1048576: true; the input reads as it did. -/
def fnExactFlowForPowerUptoRow : OpenClaim := { program := "yteifocbmholocaa", sum := "62a993057f99f8d1cb993c640f712693f59a0ba5e7b66dcd42742319b77266f0", func := "loop.example/g01011/laws.FnExactFlowForPower", spec := "fnExactFlowForPower", unfollowed := true, recurses := true, apart := false, narrowed := true }
def FnExactFlowForPowerUptoSaid : Prop := fnExactFlowForPowerUptoRow.holds Try.pinned (OpenSpec.upto fnExactFlowForPowerSpec)

/-- 'laws.FnExactSteamPressure', WHERE WHAT IT READS IS OF BULK AT MOST 1048576: true; the input reads as it did. -/
def fnExactSteamPressureUptoRow : OpenClaim := { program := "yteifocbmholocaa", sum := "62a993057f99f8d1cb993c640f712693f59a0ba5e7b66dcd42742319b77266f0", func := "loop.example/g01011/laws.FnExactSteamPressure", spec := "fnExactSteamPressure", unfollowed := true, recurses := true, apart := false, narrowed := true }
def FnExactSteamPressureUptoSaid : Prop := fnExactSteamPressureUptoRow.holds Try.pinned (OpenSpec.upto fnExactSteamPressureSpec)

/-- 'laws.FnExactMixWater', WHERE WHAT IT READS IS OF BULK AT MOST 1048576: true; the input reads as it did. -/
def fnExactMixWaterUptoRow : OpenClaim := { program := "yteifocbmholocaa", sum := "62a993057f99f8d1cb993c640f712693f59a0ba5e7b66dcd42742319b77266f0", func := "loop.example/g01011/laws.FnExactMixWater", spec := "fnExactMixWater", unfollowed := true, recurses := true, apart := false, narrowed := true }
def FnExactMixWaterUptoSaid : Prop := fnExactMixWaterUptoRow.holds Try.pinned (OpenSpec.upto fnExactMixWaterSpec)

/-- 'laws.FnExactValidPipe', WHERE WHAT IT READS IS OF BULK AT MOST 1048576: true; the input reads as it did. -/
def fnExactValidPipeUptoRow : OpenClaim := { program := "yteifocbmholocaa", sum := "62a993057f99f8d1cb993c640f712693f59a0ba5e7b66dcd42742319b77266f0", func := "loop.example/g01011/laws.FnExactValidPipe", spec := "fnExactValidPipe", apart := false, narrowed := true }
def FnExactValidPipeUptoSaid : Prop := fnExactValidPipeUptoRow.holds Try.pinned (OpenSpec.upto fnExactValidPipeSpec)

/-- 'laws.FnExactTurnPipe', WHERE WHAT IT READS IS OF BULK AT MOST 1048576: true; the input reads as it did. -/
def fnExactTurnPipeUptoRow : OpenClaim := { program := "yteifocbmholocaa", sum := "62a993057f99f8d1cb993c640f712693f59a0ba5e7b66dcd42742319b77266f0", func := "loop.example/g01011/laws.FnExactTurnPipe", spec := "fnExactTurnPipe", apart := false, narrowed := true }
def FnExactTurnPipeUptoSaid : Prop := fnExactTurnPipeUptoRow.holds Try.pinned (OpenSpec.upto fnExactTurnPipeSpec)

/-- 'laws.FnExactFlowFor', WHERE WHAT IT READS IS OF BULK AT MOST 1048576: true; the input reads as it did. -/
def fnExactFlowForUptoRow : OpenClaim := { program := "yteifocbmholocaa", sum := "62a993057f99f8d1cb993c640f712693f59a0ba5e7b66dcd42742319b77266f0", func := "loop.example/g01011/laws.FnExactFlowFor", spec := "fnExactFlowFor", unfollowed := true, recurses := true, apart := false, narrowed := true }
def FnExactFlowForUptoSaid : Prop := fnExactFlowForUptoRow.holds Try.pinned (OpenSpec.upto fnExactFlowForSpec)

/-- 'laws.FnExactWidthFor', WHERE WHAT IT READS IS OF BULK AT MOST 1048576: true; the input reads as it did. -/
def fnExactWidthForUptoRow : OpenClaim := { program := "yteifocbmholocaa", sum := "62a993057f99f8d1cb993c640f712693f59a0ba5e7b66dcd42742319b77266f0", func := "loop.example/g01011/laws.FnExactWidthFor", spec := "fnExactWidthFor", unfollowed := true, recurses := true, apart := false, narrowed := true }
def FnExactWidthForUptoSaid : Prop := fnExactWidthForUptoRow.holds Try.pinned (OpenSpec.upto fnExactWidthForSpec)

end Rows
end Go.Proofs.Yteifocbmholocaa
