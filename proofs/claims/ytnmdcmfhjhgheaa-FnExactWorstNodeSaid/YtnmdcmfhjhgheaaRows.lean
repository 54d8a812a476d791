/-
  No cell of these rows narrows 'for every input' (looked for: loops, veiled, ifaces, maps, wideKeys, modest, calm, conditions, laid).
  DERIVED. THE GIVEN ROWS OF THIS SEAT. 5 by the template 'for every input the law returns true; each argument reads behind the call as it read before'; 0 by the template 'total and deterministic' (their statements: YtnmdcmfhjhgheaaTotals.lean).
  GIVEN WITH THE SEED: the statements are not yours to turn. If you find one false, say at which input.
  Laid BY PROGRAM, IN A SANDBOX (cutbox-rows.mjs): the forced cells as the released guide's own fill.sh prints them over the translation f925ed87b6a2920e… (all of the seat's roots in one cut). By AI agents, Wed Nov 11 2026. No macro, syntax, notation, axiom, sorry.
-/
import Derived.Test.YtnmdcmfhjhgheaaChecked
import GoSem.Claim
import GoSem.ClaimJoined
import GoSem.ClaimMapViews
import Derived.JoinedTies
import Derived.KernelRfl
namespace Go.Proofs.Ytnmdcmfhjhgheaa
/- THE CELL 'sum', in the pinned program and in every row, IS THE sha256 OF THE DUMP (.gsa) THAT YtnmdcmfhjhgheaaProg.lean LOADS. Nothing in Lean hashes anything: it is a label: what it is worth is what the hold of that sum in a sandbox is worth. -/
noncomputable def Try.pinned : Pinned := { name := "ytnmdcmfhjhgheaa", sum := "f925ed87b6a2920e940b6273575f25c76ec80438207484eff89cd0ebfe78d403", checked := Try.checked }
namespace Rows
def none {H : Type} : Left H := { results := [], args := [] }

/-- 'laws.FnExactTreeFlows': WHATEVER THE INPUT: true; the input reads as it did. -/
def fnExactTreeFlowsSpec : ChangeSpec := { name := "fnExactTreeFlows", fn := fun _ => fun
  | [d1, d2, d3] => { results := [.lit (.bool true)], args := [d1, d2, d3] }
  | _ => none }
def fnExactTreeFlowsRow : OpenClaim := { program := "ytnmdcmfhjhgheaa", sum := "f925ed87b6a2920e940b6273575f25c76ec80438207484eff89cd0ebfe78d403", func := "loop.example/g01011/laws.FnExactTreeFlows", spec := "fnExactTreeFlows", unfollowed := true, recurses := true, apart := false }
def FnExactTreeFlowsSaid : Prop := fnExactTreeFlowsRow.holds Try.pinned (OpenSpec.ofChange fnExactTreeFlowsSpec)

/-- ITS FALSE NEIGHBOUR: 'it returns false'. Refute it at one input. -/
def fnExactTreeFlowsWrong : ChangeSpec := { name := "fnExactTreeFlows", fn := fun _ => fun
  | [d1, d2, d3] => { results := [.lit (.bool false)], args := [d1, d2, d3] }
  | _ => none }
def FnExactTreeFlowsWrongFalsely : Prop := fnExactTreeFlowsRow.holds Try.pinned (OpenSpec.ofChange fnExactTreeFlowsWrong)

/-- 'laws.FnExactDifferencesOf': WHATEVER THE INPUT: true; the input reads as it did. -/
def fnExactDifferencesOfSpec : ChangeSpec := { name := "fnExactDifferencesOf", fn := fun _ => fun
  | [d1, d2, d3, d4] => { results := [.lit (.bool true)], args := [d1, d2, d3, d4] }
  | _ => none }
def fnExactDifferencesOfRow : OpenClaim := { program := "ytnmdcmfhjhgheaa", sum := "f925ed87b6a2920e940b6273575f25c76ec80438207484eff89cd0ebfe78d403", func := "loop.example/g01011/laws.FnExactDifferencesOf", spec := "fnExactDifferencesOf", unfollowed := true, recurses := true, apart := false }
def FnExactDifferencesOfSaid : Prop := fnExactDifferencesOfRow.holds Try.pinned (OpenSpec.ofChange fnExactDifferencesOfSpec)

/-- ITS FALSE NEIGHBOUR: 'it returns false'. Refute it at one input. -/
def fnExactDifferencesOfWrong : ChangeSpec := { name := "fnExactDifferencesOf", fn := fun _ => fun
  | [d1, d2, d3, d4] => { results := [.lit (.bool false)], args := [d1, d2, d3, d4] }
  | _ => none }
def FnExactDifferencesOfWrongFalsely : Prop := fnExactDifferencesOfRow.holds Try.pinned (OpenSpec.ofChange fnExactDifferencesOfWrong)

/-- 'laws.FnExactPressuresOf': WHATEVER THE INPUT: true; the input reads as it did. -/
def fnExactPressuresOfSpec : ChangeSpec := { name := "fnExactPressuresOf", fn := fun _ => fun
  | [d1, d2, d3, d4] => { results := [.lit (.bool true)], args := [d1, d2, d3, d4] }
  | _ => none }
def fnExactPressuresOfRow : OpenClaim := { program := "ytnmdcmfhjhgheaa", sum := "f925ed87b6a2920e940b6273575f25c76ec80438207484eff89cd0ebfe78d403", func := "loop.example/g01011/laws.FnExactPressuresOf", spec := "fnExactPressuresOf", unfollowed := true, recurses := true, apart := false }
def FnExactPressuresOfSaid : Prop := fnExactPressuresOfRow.holds Try.pinned (OpenSpec.ofChange fnExactPressuresOfSpec)

/-- ITS FALSE NEIGHBOUR: 'it returns false'. Refute it at one input. -/
def fnExactPressuresOfWrong : ChangeSpec := { name := "fnExactPressuresOf", fn := fun _ => fun
  | [d1, d2, d3, d4] => { results := [.lit (.bool false)], args := [d1, d2, d3, d4] }
  | _ => none }
def FnExactPressuresOfWrongFalsely : Prop := fnExactPressuresOfRow.holds Try.pinned (OpenSpec.ofChange fnExactPressuresOfWrong)

/-- 'laws.FnExactLeastHead': WHATEVER THE INPUT: true; the input reads as it did. -/
def fnExactLeastHeadSpec : ChangeSpec := { name := "fnExactLeastHead", fn := fun _ => fun
  | [d1, d2, d3, d4] => { results := [.lit (.bool true)], args := [d1, d2, d3, d4] }
  | _ => none }
def fnExactLeastHeadRow : OpenClaim := { program := "ytnmdcmfhjhgheaa", sum := "f925ed87b6a2920e940b6273575f25c76ec80438207484eff89cd0ebfe78d403", func := "loop.example/g01011/laws.FnExactLeastHead", spec := "fnExactLeastHead", unfollowed := true, recurses := true, apart := false }
def FnExactLeastHeadSaid : Prop := fnExactLeastHeadRow.holds Try.pinned (OpenSpec.ofChange fnExactLeastHeadSpec)

/-- ITS FALSE NEIGHBOUR: 'it returns false'. Refute it at one input. -/
def fnExactLeastHeadWrong : ChangeSpec := { name := "fnExactLeastHead", fn := fun _ => fun
  | [d1, d2, d3, d4] => { results := [.lit (.bool false)], args := [d1, d2, d3, d4] }
  | _ => none }
def FnExactLeastHeadWrongFalsely : Prop := fnExactLeastHeadRow.holds Try.pinned (OpenSpec.ofChange fnExactLeastHeadWrong)

/-- 'laws.FnExactWorstNode': WHATEVER THE INPUT: true; the input reads as it did. -/
def fnExactWorstNodeSpec : ChangeSpec := { name := "fnExactWorstNode", fn := fun _ => fun
  | [d1, d2, d3, d4] => { results := [.lit (.bool true)], args := [d1, d2, d3, d4] }
  | _ => none }
def fnExactWorstNodeRow : OpenClaim := { program := "ytnmdcmfhjhgheaa", sum := "f925ed87b6a2920e940b6273575f25c76ec80438207484eff89cd0ebfe78d403", func := "loop.example/g01011/laws.FnExactWorstNode", spec := "fnExactWorstNode", unfollowed := true, recurses := true, apart := false }
def FnExactWorstNodeSaid : Prop := fnExactWorstNodeRow.holds Try.pinned (OpenSpec.ofChange fnExactWorstNodeSpec)

/-- ITS FALSE NEIGHBOUR: 'it returns false'. Refute it at one input. -/
def fnExactWorstNodeWrong : ChangeSpec := { name := "fnExactWorstNode", fn := fun _ => fun
  | [d1, d2, d3, d4] => { results := [.lit (.bool false)], args := [d1, d2, d3, d4] }
  | _ => none }
def FnExactWorstNodeWrongFalsely : Prop := fnExactWorstNodeRow.holds Try.pinned (OpenSpec.ofChange fnExactWorstNodeWrong)

/- THE SECOND FORM. 'bulk': how many values and letters a reading holds, each counted each time it is reached (what is shared counts as often as it is met; a slice's spare places count too). A statement '..UptoSaid' is the law's where the arguments, and the package variables that the reading takes, are together of bulk at most 1048576: NARROWER than '..Said'. Prove '..Said' where nothing that the law and all that it calls make is longer than what came in: it says more and counts as full. Else prove '..UptoSaid'. A law counts once. -/
mutual
def uptoBulk {H : Type} : DataW H → Nat
  | .lit (.string bytes) => bytes.length + 1
  | .lit _ => 1
  | .nil => 1
  | .ptr d => uptoBulk d + 1
  | .slice elems spare => uptoBulkAll elems + uptoBulkAll spare + 1
  | .agg parts => uptoBulkAll parts + 1
  | .iface _ d => uptoBulk d + 1
  | .map entries => uptoBulkEntries entries + 1
  | .held _ => 1
def uptoBulkAll {H : Type} : List (DataW H) → Nat
  | [] => 0
  | d :: r => uptoBulk d + uptoBulkAll r
def uptoBulkEntries {H : Type} : List (Lit × DataW H) → Nat
  | [] => 0
  | x :: r => uptoBulkEntry x + uptoBulkEntries r
def uptoBulkEntry {H : Type} : Lit × DataW H → Nat
  | (.string bytes, d) => bytes.length + uptoBulk d + 1
  | (_, d) => uptoBulk d + 1
 end
def uptoSmall : (H : Type) → List (DataW H) → Bool := fun _ ds => decide (uptoBulkAll ds ≤ 1048576)
def OpenSpec.upto (s : _root_.Go.ChangeSpec) : _root_.Go.OpenSpec := { _root_.Go.OpenSpec.ofChange s with cond := some uptoSmall }

/-- 'laws.FnExactTreeFlows', WHERE WHAT IT READS IS OF BULK AT MOST 1048576: true; the input reads as it did. -/
def fnExactTreeFlowsUptoRow : OpenClaim := { program := "ytnmdcmfhjhgheaa", sum := "f925ed87b6a2920e940b6273575f25c76ec80438207484eff89cd0ebfe78d403", func := "loop.example/g01011/laws.FnExactTreeFlows", spec := "fnExactTreeFlows", unfollowed := true, recurses := true, apart := false, narrowed := true }
def FnExactTreeFlowsUptoSaid : Prop := fnExactTreeFlowsUptoRow.holds Try.pinned (OpenSpec.upto fnExactTreeFlowsSpec)

/-- 'laws.FnExactDifferencesOf', WHERE WHAT IT READS IS OF BULK AT MOST 1048576: true; the input reads as it did. -/
def fnExactDifferencesOfUptoRow : OpenClaim := { program := "ytnmdcmfhjhgheaa", sum := "f925ed87b6a2920e940b6273575f25c76ec80438207484eff89cd0ebfe78d403", func := "loop.example/g01011/laws.FnExactDifferencesOf", spec := "fnExactDifferencesOf", unfollowed := true, recurses := true, apart := false, narrowed := true }
def FnExactDifferencesOfUptoSaid : Prop := fnExactDifferencesOfUptoRow.holds Try.pinned (OpenSpec.upto fnExactDifferencesOfSpec)

/-- 'laws.FnExactPressuresOf', WHERE WHAT IT READS IS OF BULK AT MOST 1048576: true; the input reads as it did. -/
def fnExactPressuresOfUptoRow : OpenClaim := { program := "ytnmdcmfhjhgheaa", sum := "f925ed87b6a2920e940b6273575f25c76ec80438207484eff89cd0ebfe78d403", func := "loop.example/g01011/laws.FnExactPressuresOf", spec := "fnExactPressuresOf", unfollowed := true, recurses := true, apart := false, narrowed := true }
def FnExactPressuresOfUptoSaid : Prop := fnExactPressuresOfUptoRow.holds Try.pinned (OpenSpec.upto fnExactPressuresOfSpec)

/-- 'laws.FnExactLeastHead', WHERE WHAT IT READS IS OF BULK AT MOST 1048576: true; the input reads as it did. -/
def fnExactLeastHeadUptoRow : OpenClaim := { program := "ytnmdcmfhjhgheaa", sum := "f925ed87b6a2920e940b6273575f25c76ec80438207484eff89cd0ebfe78d403", func := "loop.example/g01011/laws.FnExactLeastHead", spec := "fnExactLeastHead", unfollowed := true, recurses := true, apart := false, narrowed := true }
def FnExactLeastHeadUptoSaid : Prop := fnExactLeastHeadUptoRow.holds Try.pinned (OpenSpec.upto fnExactLeastHeadSpec)

/-- 'laws.FnExactWorstNode', WHERE WHAT IT READS IS OF BULK AT MOST 1048576: true; the input reads as it did. -/
def fnExactWorstNodeUptoRow : OpenClaim := { program := "ytnmdcmfhjhgheaa", sum := "f925ed87b6a2920e940b6273575f25c76ec80438207484eff89cd0ebfe78d403", func := "loop.example/g01011/laws.FnExactWorstNode", spec := "fnExactWorstNode", unfollowed := true, recurses := true, apart := false, narrowed := true }
def FnExactWorstNodeUptoSaid : Prop := fnExactWorstNodeUptoRow.holds Try.pinned (OpenSpec.upto fnExactWorstNodeSpec)

end Rows
end Go.Proofs.Ytnmdcmfhjhgheaa
