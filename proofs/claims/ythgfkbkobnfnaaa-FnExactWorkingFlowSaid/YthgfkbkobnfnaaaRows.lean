/-
  No cell of these rows narrows 'for every input' (looked for: loops, veiled, ifaces, maps, wideKeys, modest, calm, conditions, laid).
  DERIVED. THE GIVEN ROWS OF THIS SEAT. 13 by the template 'for every input the law returns true; each argument reads behind the call as it read before'; 0 by the template 'total and deterministic' (their statements: YthgfkbkobnfnaaaTotals.lean).
  GIVEN WITH THE SEED: the statements are not yours to turn. If you find one false, say at which input.
  Laid BY PROGRAM, IN A SANDBOX (cutbox-rows.mjs): the forced cells as the released guide's own fill.sh prints them over the translation bef5ecdc6969aac1… (all of the seat's roots in one cut). By AI agents, Wed Nov 11 2026. No macro, syntax, notation, axiom, sorry.
-/
import Derived.Test.YthgfkbkobnfnaaaChecked
import GoSem.Claim
import GoSem.ClaimJoined
import GoSem.ClaimMapViews
import Derived.JoinedTies
import Derived.KernelRfl
namespace Go.Proofs.Ythgfkbkobnfnaaa
/- THE CELL 'sum', in the pinned program and in every row, IS THE sha256 OF THE DUMP (.gsa) THAT YthgfkbkobnfnaaaProg.lean LOADS. Nothing in Lean hashes anything: it is a label: what it is worth is what the hold of that sum in a sandbox is worth. -/
noncomputable def Try.pinned : Pinned := { name := "ythgfkbkobnfnaaa", sum := "bef5ecdc6969aac12186de3c1d43c3983bf1edab73f1983ca87f28eddbd7be32", checked := Try.checked }
namespace Rows
def none {H : Type} : Left H := { results := [], args := [] }

/-- 'laws.FnExactSamePump': WHATEVER THE INPUT: true; the input reads as it did. -/
def fnExactSamePumpSpec : ChangeSpec := { name := "fnExactSamePump", fn := fun _ => fun
  | [d1, d2] => { results := [.lit (.bool true)], args := [d1, d2] }
  | _ => none }
def fnExactSamePumpRow : OpenClaim := { program := "ythgfkbkobnfnaaa", sum := "bef5ecdc6969aac12186de3c1d43c3983bf1edab73f1983ca87f28eddbd7be32", func := "loop.example/g01011/laws.FnExactSamePump", spec := "fnExactSamePump", unfollowed := true, recurses := true, apart := false }
def FnExactSamePumpSaid : Prop := fnExactSamePumpRow.holds Try.pinned (OpenSpec.ofChange fnExactSamePumpSpec)

/-- ITS FALSE NEIGHBOUR: 'it returns false'. Refute it at one input. -/
def fnExactSamePumpWrong : ChangeSpec := { name := "fnExactSamePump", fn := fun _ => fun
  | [d1, d2] => { results := [.lit (.bool false)], args := [d1, d2] }
  | _ => none }
def FnExactSamePumpWrongFalsely : Prop := fnExactSamePumpRow.holds Try.pinned (OpenSpec.ofChange fnExactSamePumpWrong)

/-- 'laws.FnExactValidPump': WHATEVER THE INPUT: true; the input reads as it did. -/
def fnExactValidPumpSpec : ChangeSpec := { name := "fnExactValidPump", fn := fun _ => fun
  | [d] => { results := [.lit (.bool true)], args := [d] }
  | _ => none }
def fnExactValidPumpRow : OpenClaim := { program := "ythgfkbkobnfnaaa", sum := "bef5ecdc6969aac12186de3c1d43c3983bf1edab73f1983ca87f28eddbd7be32", func := "loop.example/g01011/laws.FnExactValidPump", spec := "fnExactValidPump", apart := false }
def FnExactValidPumpSaid : Prop := fnExactValidPumpRow.holds Try.pinned (OpenSpec.ofChange fnExactValidPumpSpec)

/-- ITS FALSE NEIGHBOUR: 'it returns false'. Refute it at one input. -/
def fnExactValidPumpWrong : ChangeSpec := { name := "fnExactValidPump", fn := fun _ => fun
  | [d] => { results := [.lit (.bool false)], args := [d] }
  | _ => none }
def FnExactValidPumpWrongFalsely : Prop := fnExactValidPumpRow.holds Try.pinned (OpenSpec.ofChange fnExactValidPumpWrong)

/-- 'laws.FnExactHeadAt': WHATEVER THE INPUT: true; the input reads as it did. -/
def fnExactHeadAtSpec : ChangeSpec := { name := "fnExactHeadAt", fn := fun _ => fun
  | [d1, d2] => { results := [.lit (.bool true)], args := [d1, d2] }
  | _ => none }
def fnExactHeadAtRow : OpenClaim := { program := "ythgfkbkobnfnaaa", sum := "bef5ecdc6969aac12186de3c1d43c3983bf1edab73f1983ca87f28eddbd7be32", func := "loop.example/g01011/laws.FnExactHeadAt", spec := "fnExactHeadAt", apart := false }
def FnExactHeadAtSaid : Prop := fnExactHeadAtRow.holds Try.pinned (OpenSpec.ofChange fnExactHeadAtSpec)

/-- ITS FALSE NEIGHBOUR: 'it returns false'. Refute it at one input. -/
def fnExactHeadAtWrong : ChangeSpec := { name := "fnExactHeadAt", fn := fun _ => fun
  | [d1, d2] => { results := [.lit (.bool false)], args := [d1, d2] }
  | _ => none }
def FnExactHeadAtWrongFalsely : Prop := fnExactHeadAtRow.holds Try.pinned (OpenSpec.ofChange fnExactHeadAtWrong)

/-- 'laws.FnExactElectricPower': WHATEVER THE INPUT: true; the input reads as it did. -/
def fnExactElectricPowerSpec : ChangeSpec := { name := "fnExactElectricPower", fn := fun _ => fun
  | [d1, d2, d3] => { results := [.lit (.bool true)], args := [d1, d2, d3] }
  | _ => none }
def fnExactElectricPowerRow : OpenClaim := { program := "ythgfkbkobnfnaaa", sum := "bef5ecdc6969aac12186de3c1d43c3983bf1edab73f1983ca87f28eddbd7be32", func := "loop.example/g01011/laws.FnExactElectricPower", spec := "fnExactElectricPower", apart := false }
def FnExactElectricPowerSaid : Prop := fnExactElectricPowerRow.holds Try.pinned (OpenSpec.ofChange fnExactElectricPowerSpec)

/-- ITS FALSE NEIGHBOUR: 'it returns false'. Refute it at one input. -/
def fnExactElectricPowerWrong : ChangeSpec := { name := "fnExactElectricPower", fn := fun _ => fun
  | [d1, d2, d3] => { results := [.lit (.bool false)], args := [d1, d2, d3] }
  | _ => none }
def FnExactElectricPowerWrongFalsely : Prop := fnExactElectricPowerRow.holds Try.pinned (OpenSpec.ofChange fnExactElectricPowerWrong)

/-- 'laws.FnExactSlowPump': WHATEVER THE INPUT: true; the input reads as it did. -/
def fnExactSlowPumpSpec : ChangeSpec := { name := "fnExactSlowPump", fn := fun _ => fun
  | [d1, d2] => { results := [.lit (.bool true)], args := [d1, d2] }
  | _ => none }
def fnExactSlowPumpRow : OpenClaim := { program := "ythgfkbkobnfnaaa", sum := "bef5ecdc6969aac12186de3c1d43c3983bf1edab73f1983ca87f28eddbd7be32", func := "loop.example/g01011/laws.FnExactSlowPump", spec := "fnExactSlowPump", apart := false }
def FnExactSlowPumpSaid : Prop := fnExactSlowPumpRow.holds Try.pinned (OpenSpec.ofChange fnExactSlowPumpSpec)

/-- ITS FALSE NEIGHBOUR: 'it returns false'. Refute it at one input. -/
def fnExactSlowPumpWrong : ChangeSpec := { name := "fnExactSlowPump", fn := fun _ => fun
  | [d1, d2] => { results := [.lit (.bool false)], args := [d1, d2] }
  | _ => none }
def FnExactSlowPumpWrongFalsely : Prop := fnExactSlowPumpRow.holds Try.pinned (OpenSpec.ofChange fnExactSlowPumpWrong)

/-- 'laws.FnExactWorkingFlow': WHATEVER THE INPUT: true; the input reads as it did. -/
def fnExactWorkingFlowSpec : ChangeSpec := { name := "fnExactWorkingFlow", fn := fun _ => fun
  | [d1, d2, d3] => { results := [.lit (.bool true)], args := [d1, d2, d3] }
  | _ => none }
def fnExactWorkingFlowRow : OpenClaim := { program := "ythgfkbkobnfnaaa", sum := "bef5ecdc6969aac12186de3c1d43c3983bf1edab73f1983ca87f28eddbd7be32", func := "loop.example/g01011/laws.FnExactWorkingFlow", spec := "fnExactWorkingFlow", unfollowed := true, recurses := true, apart := false }
def FnExactWorkingFlowSaid : Prop := fnExactWorkingFlowRow.holds Try.pinned (OpenSpec.ofChange fnExactWorkingFlowSpec)

/-- ITS FALSE NEIGHBOUR: 'it returns false'. Refute it at one input. -/
def fnExactWorkingFlowWrong : ChangeSpec := { name := "fnExactWorkingFlow", fn := fun _ => fun
  | [d1, d2, d3] => { results := [.lit (.bool false)], args := [d1, d2, d3] }
  | _ => none }
def FnExactWorkingFlowWrongFalsely : Prop := fnExactWorkingFlowRow.holds Try.pinned (OpenSpec.ofChange fnExactWorkingFlowWrong)

/-- 'laws.FnExactSameNetwork': WHATEVER THE INPUT: true; the input reads as it did. -/
def fnExactSameNetworkSpec : ChangeSpec := { name := "fnExactSameNetwork", fn := fun _ => fun
  | [d1, d2] => { results := [.lit (.bool true)], args := [d1, d2] }
  | _ => none }
def fnExactSameNetworkRow : OpenClaim := { program := "ythgfkbkobnfnaaa", sum := "bef5ecdc6969aac12186de3c1d43c3983bf1edab73f1983ca87f28eddbd7be32", func := "loop.example/g01011/laws.FnExactSameNetwork", spec := "fnExactSameNetwork", apart := false }
def FnExactSameNetworkSaid : Prop := fnExactSameNetworkRow.holds Try.pinned (OpenSpec.ofChange fnExactSameNetworkSpec)

/-- ITS FALSE NEIGHBOUR: 'it returns false'. Refute it at one input. -/
def fnExactSameNetworkWrong : ChangeSpec := { name := "fnExactSameNetwork", fn := fun _ => fun
  | [d1, d2] => { results := [.lit (.bool false)], args := [d1, d2] }
  | _ => none }
def FnExactSameNetworkWrongFalsely : Prop := fnExactSameNetworkRow.holds Try.pinned (OpenSpec.ofChange fnExactSameNetworkWrong)

/-- 'laws.FnExactValidNetwork': WHATEVER THE INPUT: true; the input reads as it did. -/
def fnExactValidNetworkSpec : ChangeSpec := { name := "fnExactValidNetwork", fn := fun _ => fun
  | [d] => { results := [.lit (.bool true)], args := [d] }
  | _ => none }
def fnExactValidNetworkRow : OpenClaim := { program := "ythgfkbkobnfnaaa", sum := "bef5ecdc6969aac12186de3c1d43c3983bf1edab73f1983ca87f28eddbd7be32", func := "loop.example/g01011/laws.FnExactValidNetwork", spec := "fnExactValidNetwork", unfollowed := true, recurses := true, apart := false }
def FnExactValidNetworkSaid : Prop := fnExactValidNetworkRow.holds Try.pinned (OpenSpec.ofChange fnExactValidNetworkSpec)

/-- ITS FALSE NEIGHBOUR: 'it returns false'. Refute it at one input. -/
def fnExactValidNetworkWrong : ChangeSpec := { name := "fnExactValidNetwork", fn := fun _ => fun
  | [d] => { results := [.lit (.bool false)], args := [d] }
  | _ => none }
def FnExactValidNetworkWrongFalsely : Prop := fnExactValidNetworkRow.holds Try.pinned (OpenSpec.ofChange fnExactValidNetworkWrong)

/-- 'laws.FnExactPipeNamed': WHATEVER THE INPUT: true; the input reads as it did. -/
def fnExactPipeNamedSpec : ChangeSpec := { name := "fnExactPipeNamed", fn := fun _ => fun
  | [d1, d2] => { results := [.lit (.bool true)], args := [d1, d2] }
  | _ => none }
def fnExactPipeNamedRow : OpenClaim := { program := "ythgfkbkobnfnaaa", sum := "bef5ecdc6969aac12186de3c1d43c3983bf1edab73f1983ca87f28eddbd7be32", func := "loop.example/g01011/laws.FnExactPipeNamed", spec := "fnExactPipeNamed", unfollowed := true, recurses := true, apart := false }
def FnExactPipeNamedSaid : Prop := fnExactPipeNamedRow.holds Try.pinned (OpenSpec.ofChange fnExactPipeNamedSpec)

/-- ITS FALSE NEIGHBOUR: 'it returns false'. Refute it at one input. -/
def fnExactPipeNamedWrong : ChangeSpec := { name := "fnExactPipeNamed", fn := fun _ => fun
  | [d1, d2] => { results := [.lit (.bool false)], args := [d1, d2] }
  | _ => none }
def FnExactPipeNamedWrongFalsely : Prop := fnExactPipeNamedRow.holds Try.pinned (OpenSpec.ofChange fnExactPipeNamedWrong)

/-- 'laws.FnExactPipesAt': WHATEVER THE INPUT: true; the input reads as it did. -/
def fnExactPipesAtSpec : ChangeSpec := { name := "fnExactPipesAt", fn := fun _ => fun
  | [d1, d2] => { results := [.lit (.bool true)], args := [d1, d2] }
  | _ => none }
def fnExactPipesAtRow : OpenClaim := { program := "ythgfkbkobnfnaaa", sum := "bef5ecdc6969aac12186de3c1d43c3983bf1edab73f1983ca87f28eddbd7be32", func := "loop.example/g01011/laws.FnExactPipesAt", spec := "fnExactPipesAt", unfollowed := true, recurses := true, apart := false }
def FnExactPipesAtSaid : Prop := fnExactPipesAtRow.holds Try.pinned (OpenSpec.ofChange fnExactPipesAtSpec)

/-- ITS FALSE NEIGHBOUR: 'it returns false'. Refute it at one input. -/
def fnExactPipesAtWrong : ChangeSpec := { name := "fnExactPipesAt", fn := fun _ => fun
  | [d1, d2] => { results := [.lit (.bool false)], args := [d1, d2] }
  | _ => none }
def FnExactPipesAtWrongFalsely : Prop := fnExactPipesAtRow.holds Try.pinned (OpenSpec.ofChange fnExactPipesAtWrong)

/-- 'laws.FnExactBalanceAt': WHATEVER THE INPUT: true; the input reads as it did. -/
def fnExactBalanceAtSpec : ChangeSpec := { name := "fnExactBalanceAt", fn := fun _ => fun
  | [d1, d2, d3] => { results := [.lit (.bool true)], args := [d1, d2, d3] }
  | _ => none }
def fnExactBalanceAtRow : OpenClaim := { program := "ythgfkbkobnfnaaa", sum := "bef5ecdc6969aac12186de3c1d43c3983bf1edab73f1983ca87f28eddbd7be32", func := "loop.example/g01011/laws.FnExactBalanceAt", spec := "fnExactBalanceAt", unfollowed := true, recurses := true, apart := false }
def FnExactBalanceAtSaid : Prop := fnExactBalanceAtRow.holds Try.pinned (OpenSpec.ofChange fnExactBalanceAtSpec)

/-- ITS FALSE NEIGHBOUR: 'it returns false'. Refute it at one input. -/
def fnExactBalanceAtWrong : ChangeSpec := { name := "fnExactBalanceAt", fn := fun _ => fun
  | [d1, d2, d3] => { results := [.lit (.bool false)], args := [d1, d2, d3] }
  | _ => none }
def FnExactBalanceAtWrongFalsely : Prop := fnExactBalanceAtRow.holds Try.pinned (OpenSpec.ofChange fnExactBalanceAtWrong)

/-- 'laws.FnExactDropPipe': WHATEVER THE INPUT: true; the input reads as it did. -/
def fnExactDropPipeSpec : ChangeSpec := { name := "fnExactDropPipe", fn := fun _ => fun
  | [d1, d2] => { results := [.lit (.bool true)], args := [d1, d2] }
  | _ => none }
def fnExactDropPipeRow : OpenClaim := { program := "ythgfkbkobnfnaaa", sum := "bef5ecdc6969aac12186de3c1d43c3983bf1edab73f1983ca87f28eddbd7be32", func := "loop.example/g01011/laws.FnExactDropPipe", spec := "fnExactDropPipe", unfollowed := true, recurses := true, apart := false }
def FnExactDropPipeSaid : Prop := fnExactDropPipeRow.holds Try.pinned (OpenSpec.ofChange fnExactDropPipeSpec)

/-- ITS FALSE NEIGHBOUR: 'it returns false'. Refute it at one input. -/
def fnExactDropPipeWrong : ChangeSpec := { name := "fnExactDropPipe", fn := fun _ => fun
  | [d1, d2] => { results := [.lit (.bool false)], args := [d1, d2] }
  | _ => none }
def FnExactDropPipeWrongFalsely : Prop := fnExactDropPipeRow.holds Try.pinned (OpenSpec.ofChange fnExactDropPipeWrong)

/-- 'laws.FnExactAddPipe': WHATEVER THE INPUT: true; the input reads as it did. -/
def fnExactAddPipeSpec : ChangeSpec := { name := "fnExactAddPipe", fn := fun _ => fun
  | [d1, d2] => { results := [.lit (.bool true)], args := [d1, d2] }
  | _ => none }
def fnExactAddPipeRow : OpenClaim := { program := "ythgfkbkobnfnaaa", sum := "bef5ecdc6969aac12186de3c1d43c3983bf1edab73f1983ca87f28eddbd7be32", func := "loop.example/g01011/laws.FnExactAddPipe", spec := "fnExactAddPipe", inPlace := ["slices.overlaps[loop.example/g01011/impl.Pipe]"], unfollowed := true, recurses := true, apart := false }
def FnExactAddPipeSaid : Prop := fnExactAddPipeRow.holds Try.pinned (OpenSpec.ofChange fnExactAddPipeSpec)

/-- ITS FALSE NEIGHBOUR: 'it returns false'. Refute it at one input. -/
def fnExactAddPipeWrong : ChangeSpec := { name := "fnExactAddPipe", fn := fun _ => fun
  | [d1, d2] => { results := [.lit (.bool false)], args := [d1, d2] }
  | _ => none }
def FnExactAddPipeWrongFalsely : Prop := fnExactAddPipeRow.holds Try.pinned (OpenSpec.ofChange fnExactAddPipeWrong)

/- THE SECOND FORM. 'bulk': how many values and letters a reading holds, each counted each time it is reached (what is shared counts as often as it is met; a slice's spare places count too). A statement '..UptoSaid' is the law's where the arguments, and the package variables that the reading takes, are together of bulk at most 1048576: NARROWER than '..Said'. Prove '..Said' where nothing that the law and all that it calls make is longer than what came in: it says more and counts as full. Else prove '..UptoSaid'. A law counts once. -/
mutual
def uptoBulk {H : Type} : DataW H → Nat
  | .lit (.string bytes) => bytes.length + 1
  | .lit _ => 1
  | .nil => 1
  | .ptr d => uptoBulk d + 1
  | .slice elems spare => uptoBulkAll elems + uptoBulkAll spare + 1
  | .agg parts => uptoBulkAll parts + 1
  | .iface _ d => uptoBulk d + 1
  | .map entries => uptoBulkEntries entries + 1
  | .held _ => 1
def uptoBulkAll {H : Type} : List (DataW H) → Nat
  | [] => 0
  | d :: r => uptoBulk d + uptoBulkAll r
def uptoBulkEntries {H : Type} : List (Lit × DataW H) → Nat
  | [] => 0
  | x :: r => uptoBulkEntry x + uptoBulkEntries r
def uptoBulkEntry {H : Type} : Lit × DataW H → Nat
  | (.string bytes, d) => bytes.length + uptoBulk d + 1
  | (_, d) => uptoBulk d + 1
 end
def uptoSmall : (H : Type) → List (DataW H) → Bool := fun _ ds => decide (uptoBulkAll ds ≤ 1048576)
def OpenSpec.upto (s : _root_.Go.ChangeSpec) : _root_.Go.OpenSpec := { _root_.Go.OpenSpec.ofChange s with cond := some uptoSmall }

/-- 'laws.FnExactSamePump', WHERE WHAT IT READS IS OF BULK AT MOST 1048576: true; the input reads as it did. -/
def fnExactSamePumpUptoRow : OpenClaim := { program := "ythgfkbkobnfnaaa", sum := "bef5ecdc6969aac12186de3c1d43c3983bf1edab73f1983ca87f28eddbd7be32", func := "loop.example/g01011/laws.FnExactSamePump", spec := "fnExactSamePump", unfollowed := true, recurses := true, apart := false, narrowed := true }
def FnExactSamePumpUptoSaid : Prop := fnExactSamePumpUptoRow.holds Try.pinned (OpenSpec.upto fnExactSamePumpSpec)

/-- 'laws.FnExactValidPump', WHERE WHAT IT READS IS OF BULK AT MOST 1048576: true; the input reads as it did. -/
def fnExactValidPumpUptoRow : OpenClaim := { program := "ythgfkbkobnfnaaa", sum := "bef5ecdc6969aac12186de3c1d43c3983bf1edab73f1983ca87f28eddbd7be32", func := "loop.example/g01011/laws.FnExactValidPump", spec := "fnExactValidPump", apart := false, narrowed := true }
def FnExactValidPumpUptoSaid : Prop := fnExactValidPumpUptoRow.holds Try.pinned (OpenSpec.upto fnExactValidPumpSpec)

/-- 'laws.FnExactHeadAt', WHERE WHAT IT READS IS OF BULK AT MOST 1048576: true; the input reads as it did. -/
def fnExactHeadAtUptoRow : OpenClaim := { program := "ythgfkbkobnfnaaa", sum := "bef5ecdc6969aac12186de3c1d43c3983bf1edab73f1983ca87f28eddbd7be32", func := "loop.example/g01011/laws.FnExactHeadAt", spec := "fnExactHeadAt", apart := false, narrowed := true }
def FnExactHeadAtUptoSaid : Prop := fnExactHeadAtUptoRow.holds Try.pinned (OpenSpec.upto fnExactHeadAtSpec)

/-- 'laws.FnExactElectricPower', WHERE WHAT IT READS IS OF BULK AT MOST 1048576: true; the input reads as it did. -/
def fnExactElectricPowerUptoRow : OpenClaim := { program := "ythgfkbkobnfnaaa", sum := "bef5ecdc6969aac12186de3c1d43c3983bf1edab73f1983ca87f28eddbd7be32", func := "loop.example/g01011/laws.FnExactElectricPower", spec := "fnExactElectricPower", apart := false, narrowed := true }
def FnExactElectricPowerUptoSaid : Prop := fnExactElectricPowerUptoRow.holds Try.pinned (OpenSpec.upto fnExactElectricPowerSpec)

/-- 'laws.FnExactSlowPump', WHERE WHAT IT READS IS OF BULK AT MOST 1048576: true; the input reads as it did. -/
def fnExactSlowPumpUptoRow : OpenClaim := { program := "ythgfkbkobnfnaaa", sum := "bef5ecdc6969aac12186de3c1d43c3983bf1edab73f1983ca87f28eddbd7be32", func := "loop.example/g01011/laws.FnExactSlowPump", spec := "fnExactSlowPump", apart := false, narrowed := true }
def FnExactSlowPumpUptoSaid : Prop := fnExactSlowPumpUptoRow.holds Try.pinned (OpenSpec.upto fnExactSlowPumpSpec)

/-- 'laws.FnExactWorkingFlow', WHERE WHAT IT READS IS OF BULK AT MOST 1048576: true; the input reads as it did. -/
def fnExactWorkingFlowUptoRow : OpenClaim := { program := "ythgfkbkobnfnaaa", sum := "bef5ecdc6969aac12186de3c1d43c3983bf1edab73f1983ca87f28eddbd7be32", func := "loop.example/g01011/laws.FnExactWorkingFlow", spec := "fnExactWorkingFlow", unfollowed := true, recurses := true, apart := false, narrowed := true }
def FnExactWorkingFlowUptoSaid : Prop := fnExactWorkingFlowUptoRow.holds Try.pinned (OpenSpec.upto fnExactWorkingFlowSpec)

/-- 'laws.FnExactSameNetwork', WHERE WHAT IT READS IS OF BULK AT MOST 1048576: true; the input reads as it did. -/
def fnExactSameNetworkUptoRow : OpenClaim := { program := "ythgfkbkobnfnaaa", sum := "bef5ecdc6969aac12186de3c1d43c3983bf1edab73f1983ca87f28eddbd7be32", func := "loop.example/g01011/laws.FnExactSameNetwork", spec := "fnExactSameNetwork", apart := false, narrowed := true }
def FnExactSameNetworkUptoSaid : Prop := fnExactSameNetworkUptoRow.holds Try.pinned (OpenSpec.upto fnExactSameNetworkSpec)

/-- 'laws.FnExactValidNetwork', WHERE WHAT IT READS IS OF BULK AT MOST 1048576: true; the input reads as it did. -/
def fnExactValidNetworkUptoRow : OpenClaim := { program := "ythgfkbkobnfnaaa", sum := "bef5ecdc6969aac12186de3c1d43c3983bf1edab73f1983ca87f28eddbd7be32", func := "loop.example/g01011/laws.FnExactValidNetwork", spec := "fnExactValidNetwork", unfollowed := true, recurses := true, apart := false, narrowed := true }
def FnExactValidNetworkUptoSaid : Prop := fnExactValidNetworkUptoRow.holds Try.pinned (OpenSpec.upto fnExactValidNetworkSpec)

/-- 'laws.FnExactPipeNamed', WHERE WHAT IT READS IS OF BULK AT MOST 1048576: true; the input reads as it did. -/
def fnExactPipeNamedUptoRow : OpenClaim := { program := "ythgfkbkobnfnaaa", sum := "bef5ecdc6969aac12186de3c1d43c3983bf1edab73f1983ca87f28eddbd7be32", func := "loop.example/g01011/laws.FnExactPipeNamed", spec := "fnExactPipeNamed", unfollowed := true, recurses := true, apart := false, narrowed := true }
def FnExactPipeNamedUptoSaid : Prop := fnExactPipeNamedUptoRow.holds Try.pinned (OpenSpec.upto fnExactPipeNamedSpec)

/-- 'laws.FnExactPipesAt', WHERE WHAT IT READS IS OF BULK AT MOST 1048576: true; the input reads as it did. -/
def fnExactPipesAtUptoRow : OpenClaim := { program := "ythgfkbkobnfnaaa", sum := "bef5ecdc6969aac12186de3c1d43c3983bf1edab73f1983ca87f28eddbd7be32", func := "loop.example/g01011/laws.FnExactPipesAt", spec := "fnExactPipesAt", unfollowed := true, recurses := true, apart := false, narrowed := true }
def FnExactPipesAtUptoSaid : Prop := fnExactPipesAtUptoRow.holds Try.pinned (OpenSpec.upto fnExactPipesAtSpec)

/-- 'laws.FnExactBalanceAt', WHERE WHAT IT READS IS OF BULK AT MOST 1048576: true; the input reads as it did. -/
def fnExactBalanceAtUptoRow : OpenClaim := { program := "ythgfkbkobnfnaaa", sum := "bef5ecdc6969aac12186de3c1d43c3983bf1edab73f1983ca87f28eddbd7be32", func := "loop.example/g01011/laws.FnExactBalanceAt", spec := "fnExactBalanceAt", unfollowed := true, recurses := true, apart := false, narrowed := true }
def FnExactBalanceAtUptoSaid : Prop := fnExactBalanceAtUptoRow.holds Try.pinned (OpenSpec.upto fnExactBalanceAtSpec)

/-- 'laws.FnExactDropPipe', WHERE WHAT IT READS IS OF BULK AT MOST 1048576: true; the input reads as it did. -/
def fnExactDropPipeUptoRow : OpenClaim := { program := "ythgfkbkobnfnaaa", sum := "bef5ecdc6969aac12186de3c1d43c3983bf1edab73f1983ca87f28eddbd7be32", func := "loop.example/g01011/laws.FnExactDropPipe", spec := "fnExactDropPipe", unfollowed := true, recurses := true, apart := false, narrowed := true }
def FnExactDropPipeUptoSaid : Prop := fnExactDropPipeUptoRow.holds Try.pinned (OpenSpec.upto fnExactDropPipeSpec)

/-- 'laws.FnExactAddPipe', WHERE WHAT IT READS IS OF BULK AT MOST 1048576: true; the input reads as it did. -/
def fnExactAddPipeUptoRow : OpenClaim := { program := "ythgfkbkobnfnaaa", sum := "bef5ecdc6969aac12186de3c1d43c3983bf1edab73f1983ca87f28eddbd7be32", func := "loop.example/g01011/laws.FnExactAddPipe", spec := "fnExactAddPipe", inPlace := ["slices.overlaps[loop.example/g01011/impl.Pipe]"], unfollowed := true, recurses := true, apart := false, narrowed := true }
def FnExactAddPipeUptoSaid : Prop := fnExactAddPipeUptoRow.holds Try.pinned (OpenSpec.upto fnExactAddPipeSpec)

end Rows
end Go.Proofs.Ythgfkbkobnfnaaa
