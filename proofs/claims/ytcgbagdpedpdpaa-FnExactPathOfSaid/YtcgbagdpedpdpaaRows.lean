/-
  No cell of these rows narrows 'for every input' (looked for: loops, veiled, ifaces, maps, wideKeys, modest, calm, conditions, laid).
  DERIVED. THE GIVEN ROWS OF THIS SEAT. 11 by the template 'for every input the law returns true; each argument reads behind the call as it read before'; 0 by the template 'total and deterministic' (their statements: YtcgbagdpedpdpaaTotals.lean).
  GIVEN WITH THE SEED: the statements are not yours to turn. If you find one false, say at which input.
  Laid BY PROGRAM, IN A SANDBOX (cutbox-rows.mjs): the forced cells as the released guide's own fill.sh prints them over the translation f8049526ee22243b… (all of the seat's roots in one cut). By AI agents, Wed Nov 11 2026. No macro, syntax, notation, axiom, sorry.
-/
import Derived.Test.YtcgbagdpedpdpaaChecked
import GoSem.Claim
import GoSem.ClaimJoined
import GoSem.ClaimMapViews
import Derived.JoinedTies
import Derived.KernelRfl
namespace Go.Proofs.Ytcgbagdpedpdpaa
/- THE CELL 'sum', in the pinned program and in every row, IS THE sha256 OF THE DUMP (.gsa) THAT YtcgbagdpedpdpaaProg.lean LOADS. Nothing in Lean hashes anything: it is a label: what it is worth is what the hold of that sum in a sandbox is worth. -/
noncomputable def Try.pinned : Pinned := { name := "ytcgbagdpedpdpaa", sum := "f8049526ee22243b13015cbed45eaf063c277be539c346a91527ab02fb24b670", checked := Try.checked }
namespace Rows
def none {H : Type} : Left H := { results := [], args := [] }

/-- 'laws.FnExactPathOf': WHATEVER THE INPUT: true; the input reads as it did. -/
def fnExactPathOfSpec : ChangeSpec := { name := "fnExactPathOf", fn := fun _ => fun
  | [d1, d2, d3] => { results := [.lit (.bool true)], args := [d1, d2, d3] }
  | _ => none }
def fnExactPathOfRow : OpenClaim := { program := "ytcgbagdpedpdpaa", sum := "f8049526ee22243b13015cbed45eaf063c277be539c346a91527ab02fb24b670", func := "loop.example/g01011/laws.FnExactPathOf", spec := "fnExactPathOf", unfollowed := true, recurses := true, apart := false }
def FnExactPathOfSaid : Prop := fnExactPathOfRow.holds Try.pinned (OpenSpec.ofChange fnExactPathOfSpec)

/-- ITS FALSE NEIGHBOUR: 'it returns false'. Refute it at one input. -/
def fnExactPathOfWrong : ChangeSpec := { name := "fnExactPathOf", fn := fun _ => fun
  | [d1, d2, d3] => { results := [.lit (.bool false)], args := [d1, d2, d3] }
  | _ => none }
def FnExactPathOfWrongFalsely : Prop := fnExactPathOfRow.holds Try.pinned (OpenSpec.ofChange fnExactPathOfWrong)

/-- 'laws.FnExactIsTree': WHATEVER THE INPUT: true; the input reads as it did. -/
def fnExactIsTreeSpec : ChangeSpec := { name := "fnExactIsTree", fn := fun _ => fun
  | [d] => { results := [.lit (.bool true)], args := [d] }
  | _ => none }
def fnExactIsTreeRow : OpenClaim := { program := "ytcgbagdpedpdpaa", sum := "f8049526ee22243b13015cbed45eaf063c277be539c346a91527ab02fb24b670", func := "loop.example/g01011/laws.FnExactIsTree", spec := "fnExactIsTree", unfollowed := true, recurses := true, apart := false }
def FnExactIsTreeSaid : Prop := fnExactIsTreeRow.holds Try.pinned (OpenSpec.ofChange fnExactIsTreeSpec)

/-- ITS FALSE NEIGHBOUR: 'it returns false'. Refute it at one input. -/
def fnExactIsTreeWrong : ChangeSpec := { name := "fnExactIsTree", fn := fun _ => fun
  | [d] => { results := [.lit (.bool false)], args := [d] }
  | _ => none }
def FnExactIsTreeWrongFalsely : Prop := fnExactIsTreeRow.holds Try.pinned (OpenSpec.ofChange fnExactIsTreeWrong)

/-- 'laws.FnExactNetworkTree': WHATEVER THE INPUT: true; the input reads as it did. -/
def fnExactNetworkTreeSpec : ChangeSpec := { name := "fnExactNetworkTree", fn := fun _ => fun
  | [d] => { results := [.lit (.bool true)], args := [d] }
  | _ => none }
def fnExactNetworkTreeRow : OpenClaim := { program := "ytcgbagdpedpdpaa", sum := "f8049526ee22243b13015cbed45eaf063c277be539c346a91527ab02fb24b670", func := "loop.example/g01011/laws.FnExactNetworkTree", spec := "fnExactNetworkTree", unfollowed := true, recurses := true, apart := false }
def FnExactNetworkTreeSaid : Prop := fnExactNetworkTreeRow.holds Try.pinned (OpenSpec.ofChange fnExactNetworkTreeSpec)

/-- ITS FALSE NEIGHBOUR: 'it returns false'. Refute it at one input. -/
def fnExactNetworkTreeWrong : ChangeSpec := { name := "fnExactNetworkTree", fn := fun _ => fun
  | [d] => { results := [.lit (.bool false)], args := [d] }
  | _ => none }
def FnExactNetworkTreeWrongFalsely : Prop := fnExactNetworkTreeRow.holds Try.pinned (OpenSpec.ofChange fnExactNetworkTreeWrong)

/-- 'laws.FnExactNetworkParts': WHATEVER THE INPUT: true; the input reads as it did. -/
def fnExactNetworkPartsSpec : ChangeSpec := { name := "fnExactNetworkParts", fn := fun _ => fun
  | [d] => { results := [.lit (.bool true)], args := [d] }
  | _ => none }
def fnExactNetworkPartsRow : OpenClaim := { program := "ytcgbagdpedpdpaa", sum := "f8049526ee22243b13015cbed45eaf063c277be539c346a91527ab02fb24b670", func := "loop.example/g01011/laws.FnExactNetworkParts", spec := "fnExactNetworkParts", unfollowed := true, recurses := true, apart := false }
def FnExactNetworkPartsSaid : Prop := fnExactNetworkPartsRow.holds Try.pinned (OpenSpec.ofChange fnExactNetworkPartsSpec)

/-- ITS FALSE NEIGHBOUR: 'it returns false'. Refute it at one input. -/
def fnExactNetworkPartsWrong : ChangeSpec := { name := "fnExactNetworkParts", fn := fun _ => fun
  | [d] => { results := [.lit (.bool false)], args := [d] }
  | _ => none }
def FnExactNetworkPartsWrongFalsely : Prop := fnExactNetworkPartsRow.holds Try.pinned (OpenSpec.ofChange fnExactNetworkPartsWrong)

/-- 'laws.FnExactBridgePipes': WHATEVER THE INPUT: true; the input reads as it did. -/
def fnExactBridgePipesSpec : ChangeSpec := { name := "fnExactBridgePipes", fn := fun _ => fun
  | [d] => { results := [.lit (.bool true)], args := [d] }
  | _ => none }
def fnExactBridgePipesRow : OpenClaim := { program := "ytcgbagdpedpdpaa", sum := "f8049526ee22243b13015cbed45eaf063c277be539c346a91527ab02fb24b670", func := "loop.example/g01011/laws.FnExactBridgePipes", spec := "fnExactBridgePipes", unfollowed := true, recurses := true, apart := false }
def FnExactBridgePipesSaid : Prop := fnExactBridgePipesRow.holds Try.pinned (OpenSpec.ofChange fnExactBridgePipesSpec)

/-- ITS FALSE NEIGHBOUR: 'it returns false'. Refute it at one input. -/
def fnExactBridgePipesWrong : ChangeSpec := { name := "fnExactBridgePipes", fn := fun _ => fun
  | [d] => { results := [.lit (.bool false)], args := [d] }
  | _ => none }
def FnExactBridgePipesWrongFalsely : Prop := fnExactBridgePipesRow.holds Try.pinned (OpenSpec.ofChange fnExactBridgePipesWrong)

/-- 'laws.FnExactReachedWithout': WHATEVER THE INPUT: true; the input reads as it did. -/
def fnExactReachedWithoutSpec : ChangeSpec := { name := "fnExactReachedWithout", fn := fun _ => fun
  | [d1, d2, d3] => { results := [.lit (.bool true)], args := [d1, d2, d3] }
  | _ => none }
def fnExactReachedWithoutRow : OpenClaim := { program := "ytcgbagdpedpdpaa", sum := "f8049526ee22243b13015cbed45eaf063c277be539c346a91527ab02fb24b670", func := "loop.example/g01011/laws.FnExactReachedWithout", spec := "fnExactReachedWithout", unfollowed := true, recurses := true, apart := false }
def FnExactReachedWithoutSaid : Prop := fnExactReachedWithoutRow.holds Try.pinned (OpenSpec.ofChange fnExactReachedWithoutSpec)

/-- ITS FALSE NEIGHBOUR: 'it returns false'. Refute it at one input. -/
def fnExactReachedWithoutWrong : ChangeSpec := { name := "fnExactReachedWithout", fn := fun _ => fun
  | [d1, d2, d3] => { results := [.lit (.bool false)], args := [d1, d2, d3] }
  | _ => none }
def FnExactReachedWithoutWrongFalsely : Prop := fnExactReachedWithoutRow.holds Try.pinned (OpenSpec.ofChange fnExactReachedWithoutWrong)

/-- 'laws.FnExactTreeFlows': WHATEVER THE INPUT: true; the input reads as it did. -/
def fnExactTreeFlowsSpec : ChangeSpec := { name := "fnExactTreeFlows", fn := fun _ => fun
  | [d1, d2, d3] => { results := [.lit (.bool true)], args := [d1, d2, d3] }
  | _ => none }
def fnExactTreeFlowsRow : OpenClaim := { program := "ytcgbagdpedpdpaa", sum := "f8049526ee22243b13015cbed45eaf063c277be539c346a91527ab02fb24b670", func := "loop.example/g01011/laws.FnExactTreeFlows", spec := "fnExactTreeFlows", unfollowed := true, recurses := true, apart := false }
def FnExactTreeFlowsSaid : Prop := fnExactTreeFlowsRow.holds Try.pinned (OpenSpec.ofChange fnExactTreeFlowsSpec)

/-- ITS FALSE NEIGHBOUR: 'it returns false'. Refute it at one input. -/
def fnExactTreeFlowsWrong : ChangeSpec := { name := "fnExactTreeFlows", fn := fun _ => fun
  | [d1, d2, d3] => { results := [.lit (.bool false)], args := [d1, d2, d3] }
  | _ => none }
def FnExactTreeFlowsWrongFalsely : Prop := fnExactTreeFlowsRow.holds Try.pinned (OpenSpec.ofChange fnExactTreeFlowsWrong)

/-- 'laws.FnExactDifferencesOf': WHATEVER THE INPUT: true; the input reads as it did. -/
def fnExactDifferencesOfSpec : ChangeSpec := { name := "fnExactDifferencesOf", fn := fun _ => fun
  | [d1, d2, d3, d4] => { results := [.lit (.bool true)], args := [d1, d2, d3, d4] }
  | _ => none }
def fnExactDifferencesOfRow : OpenClaim := { program := "ytcgbagdpedpdpaa", sum := "f8049526ee22243b13015cbed45eaf063c277be539c346a91527ab02fb24b670", func := "loop.example/g01011/laws.FnExactDifferencesOf", spec := "fnExactDifferencesOf", unfollowed := true, recurses := true, apart := false }
def FnExactDifferencesOfSaid : Prop := fnExactDifferencesOfRow.holds Try.pinned (OpenSpec.ofChange fnExactDifferencesOfSpec)

/-- ITS FALSE NEIGHBOUR: 'it returns false'. Refute it at one input. -/
def fnExactDifferencesOfWrong : ChangeSpec := { name := "fnExactDifferencesOf", fn := fun _ => fun
  | [d1, d2, d3, d4] => { results := [.lit (.bool false)], args := [d1, d2, d3, d4] }
  | _ => none }
def FnExactDifferencesOfWrongFalsely : Prop := fnExactDifferencesOfRow.holds Try.pinned (OpenSpec.ofChange fnExactDifferencesOfWrong)

/-- 'laws.FnExactPressuresOf': WHATEVER THE INPUT: true; the input reads as it did. -/
def fnExactPressuresOfSpec : ChangeSpec := { name := "fnExactPressuresOf", fn := fun _ => fun
  | [d1, d2, d3, d4] => { results := [.lit (.bool true)], args := [d1, d2, d3, d4] }
  | _ => none }
def fnExactPressuresOfRow : OpenClaim := { program := "ytcgbagdpedpdpaa", sum := "f8049526ee22243b13015cbed45eaf063c277be539c346a91527ab02fb24b670", func := "loop.example/g01011/laws.FnExactPressuresOf", spec := "fnExactPressuresOf", unfollowed := true, recurses := true, apart := false }
def FnExactPressuresOfSaid : Prop := fnExactPressuresOfRow.holds Try.pinned (OpenSpec.ofChange fnExactPressuresOfSpec)

/-- ITS FALSE NEIGHBOUR: 'it returns false'. Refute it at one input. -/
def fnExactPressuresOfWrong : ChangeSpec := { name := "fnExactPressuresOf", fn := fun _ => fun
  | [d1, d2, d3, d4] => { results := [.lit (.bool false)], args := [d1, d2, d3, d4] }
  | _ => none }
def FnExactPressuresOfWrongFalsely : Prop := fnExactPressuresOfRow.holds Try.pinned (OpenSpec.ofChange fnExactPressuresOfWrong)

/-- 'laws.FnExactLeastHead': WHATEVER THE INPUT: true; the input reads as it did. -/
def fnExactLeastHeadSpec : ChangeSpec := { name := "fnExactLeastHead", fn := fun _ => fun
  | [d1, d2, d3, d4] => { results := [.lit (.bool true)], args := [d1, d2, d3, d4] }
  | _ => none }
def fnExactLeastHeadRow : OpenClaim := { program := "ytcgbagdpedpdpaa", sum := "f8049526ee22243b13015cbed45eaf063c277be539c346a91527ab02fb24b670", func := "loop.example/g01011/laws.FnExactLeastHead", spec := "fnExactLeastHead", unfollowed := true, recurses := true, apart := false }
def FnExactLeastHeadSaid : Prop := fnExactLeastHeadRow.holds Try.pinned (OpenSpec.ofChange fnExactLeastHeadSpec)

/-- ITS FALSE NEIGHBOUR: 'it returns false'. Refute it at one input. -/
def fnExactLeastHeadWrong : ChangeSpec := { name := "fnExactLeastHead", fn := fun _ => fun
  | [d1, d2, d3, d4] => { results := [.lit (.bool false)], args := [d1, d2, d3, d4] }
  | _ => none }
def FnExactLeastHeadWrongFalsely : Prop := fnExactLeastHeadRow.holds Try.pinned (OpenSpec.ofChange fnExactLeastHeadWrong)

/-- 'laws.FnExactWorstNode': WHATEVER THE INPUT: true; the input reads as it did. -/
def fnExactWorstNodeSpec : ChangeSpec := { name := "fnExactWorstNode", fn := fun _ => fun
  | [d1, d2, d3, d4] => { results := [.lit (.bool true)], args := [d1, d2, d3, d4] }
  | _ => none }
def fnExactWorstNodeRow : OpenClaim := { program := "ytcgbagdpedpdpaa", sum := "f8049526ee22243b13015cbed45eaf063c277be539c346a91527ab02fb24b670", func := "loop.example/g01011/laws.FnExactWorstNode", spec := "fnExactWorstNode", unfollowed := true, recurses := true, apart := false }
def FnExactWorstNodeSaid : Prop := fnExactWorstNodeRow.holds Try.pinned (OpenSpec.ofChange fnExactWorstNodeSpec)

/-- ITS FALSE NEIGHBOUR: 'it returns false'. Refute it at one input. -/
def fnExactWorstNodeWrong : ChangeSpec := { name := "fnExactWorstNode", fn := fun _ => fun
  | [d1, d2, d3, d4] => { results := [.lit (.bool false)], args := [d1, d2, d3, d4] }
  | _ => none }
def FnExactWorstNodeWrongFalsely : Prop := fnExactWorstNodeRow.holds Try.pinned (OpenSpec.ofChange fnExactWorstNodeWrong)

/- THE SECOND FORM. 'bulk': how many values and letters a reading holds, each counted each time it is reached (what is shared counts as often as it is met; a slice's spare places count too). A statement '..UptoSaid' is the law's where the arguments, and the package variables that the reading takes, are together of bulk at most 1048576: NARROWER than '..Said'. Prove '..Said' where nothing that the law and all that it calls make is longer than what came in: it says more and counts as full. Else prove '..UptoSaid'. A law counts once. -/
mutual
def uptoBulk {H : Type} : DataW H → Nat
  | .lit (.string bytes) => bytes.length + 1
  | .lit _ => 1
  | .nil => 1
  | .ptr d => uptoBulk d + 1
  | .slice elems spare => uptoBulkAll elems + uptoBulkAll spare + 1
  | .agg parts => uptoBulkAll parts + 1
  | .iface _ d => uptoBulk d + 1
  | .map entries => uptoBulkEntries entries + 1
  | .held _ => 1
def uptoBulkAll {H : Type} : List (DataW H) → Nat
  | [] => 0
  | d :: r => uptoBulk d + uptoBulkAll r
def uptoBulkEntries {H : Type} : List (Lit × DataW H) → Nat
  | [] => 0
  | x :: r => uptoBulkEntry x + uptoBulkEntries r
def uptoBulkEntry {H : Type} : Lit × DataW H → Nat
  | (.string bytes, d) => bytes.length + uptoBulk d + 1
  | (_, d) => uptoBulk d + 1
 end
def uptoSmall : (H : Type) → List (DataW H) → Bool := fun _ ds => decide (uptoBulkAll ds ≤ 1048576)
def OpenSpec.upto (s : _root_.Go.ChangeSpec) : _root_.Go.OpenSpec := { _root_.Go.OpenSpec.ofChange s with cond := some uptoSmall }

/-- 'laws.FnExactPathOf', WHERE WHAT IT READS IS OF BULK AT MOST 1048576: true; the input reads as it did. -/
def fnExactPathOfUptoRow : OpenClaim := { program := "ytcgbagdpedpdpaa", sum := "f8049526ee22243b13015cbed45eaf063c277be539c346a91527ab02fb24b670", func := "loop.example/g01011/laws.FnExactPathOf", spec := "fnExactPathOf", unfollowed := true, recurses := true, apart := false, narrowed := true }
def FnExactPathOfUptoSaid : Prop := fnExactPathOfUptoRow.holds Try.pinned (OpenSpec.upto fnExactPathOfSpec)

/-- 'laws.FnExactIsTree', WHERE WHAT IT READS IS OF BULK AT MOST 1048576: true; the input reads as it did. -/
def fnExactIsTreeUptoRow : OpenClaim := { program := "ytcgbagdpedpdpaa", sum := "f8049526ee22243b13015cbed45eaf063c277be539c346a91527ab02fb24b670", func := "loop.example/g01011/laws.FnExactIsTree", spec := "fnExactIsTree", unfollowed := true, recurses := true, apart := false, narrowed := true }
def FnExactIsTreeUptoSaid : Prop := fnExactIsTreeUptoRow.holds Try.pinned (OpenSpec.upto fnExactIsTreeSpec)

/-- 'laws.FnExactNetworkTree', WHERE WHAT IT READS IS OF BULK AT MOST 1048576: true; the input reads as it did. -/
def fnExactNetworkTreeUptoRow : OpenClaim := { program := "ytcgbagdpedpdpaa", sum := "f8049526ee22243b13015cbed45eaf063c277be539c346a91527ab02fb24b670", func := "loop.example/g01011/laws.FnExactNetworkTree", spec := "fnExactNetworkTree", unfollowed := true, recurses := true, apart := false, narrowed := true }
def FnExactNetworkTreeUptoSaid : Prop := fnExactNetworkTreeUptoRow.holds Try.pinned (OpenSpec.upto fnExactNetworkTreeSpec)

/-- 'laws.FnExactNetworkParts', WHERE WHAT IT READS IS OF BULK AT MOST 1048576: true; the input reads as it did. -/
def fnExactNetworkPartsUptoRow : OpenClaim := { program := "ytcgbagdpedpdpaa", sum := "f8049526ee22243b13015cbed45eaf063c277be539c346a91527ab02fb24b670", func := "loop.example/g01011/laws.FnExactNetworkParts", spec := "fnExactNetworkParts", unfollowed := true, recurses := true, apart := false, narrowed := true }
def FnExactNetworkPartsUptoSaid : Prop := fnExactNetworkPartsUptoRow.holds Try.pinned (OpenSpec.upto fnExactNetworkPartsSpec)

/-- 'laws.FnExactBridgePipes', WHERE WHAT IT READS IS OF BULK AT MOST 1048576: true; the input reads as it did. -/
def fnExactBridgePipesUptoRow : OpenClaim := { program := "ytcgbagdpedpdpaa", sum := "f8049526ee22243b13015cbed45eaf063c277be539c346a91527ab02fb24b670", func := "loop.example/g01011/laws.FnExactBridgePipes", spec := "fnExactBridgePipes", unfollowed := true, recurses := true, apart := false, narrowed := true }
def FnExactBridgePipesUptoSaid : Prop := fnExactBridgePipesUptoRow.holds Try.pinned (OpenSpec.upto fnExactBridgePipesSpec)

/-- 'laws.FnExactReachedWithout', WHERE WHAT IT READS IS OF BULK AT MOST 1048576: true; the input reads as it did. -/
def fnExactReachedWithoutUptoRow : OpenClaim := { program := "ytcgbagdpedpdpaa", sum := "f8049526ee22243b13015cbed45eaf063c277be539c346a91527ab02fb24b670", func := "loop.example/g01011/laws.FnExactReachedWithout", spec := "fnExactReachedWithout", unfollowed := true, recurses := true, apart := false, narrowed := true }
def FnExactReachedWithoutUptoSaid : Prop := fnExactReachedWithoutUptoRow.holds Try.pinned (OpenSpec.upto fnExactReachedWithoutSpec)

/-- 'laws.FnExactTreeFlows', WHERE WHAT IT READS IS OF BULK AT MOST 1048576: true; the input reads as it did. -/
def fnExactTreeFlowsUptoRow : OpenClaim := { program := "ytcgbagdpedpdpaa", sum := "f8049526ee22243b13015cbed45eaf063c277be539c346a91527ab02fb24b670", func := "loop.example/g01011/laws.FnExactTreeFlows", spec := "fnExactTreeFlows", unfollowed := true, recurses := true, apart := false, narrowed := true }
def FnExactTreeFlowsUptoSaid : Prop := fnExactTreeFlowsUptoRow.holds Try.pinned (OpenSpec.upto fnExactTreeFlowsSpec)

/-- 'laws.FnExactDifferencesOf', WHERE WHAT IT READS IS OF BULK AT MOST 1048576: true; the input reads as it did. -/
def fnExactDifferencesOfUptoRow : OpenClaim := { program := "ytcgbagdpedpdpaa", sum := "f8049526ee22243b13015cbed45eaf063c277be539c346a91527ab02fb24b670", func := "loop.example/g01011/laws.FnExactDifferencesOf", spec := "fnExactDifferencesOf", unfollowed := true, recurses := true, apart := false, narrowed := true }
def FnExactDifferencesOfUptoSaid : Prop := fnExactDifferencesOfUptoRow.holds Try.pinned (OpenSpec.upto fnExactDifferencesOfSpec)

/-- 'laws.FnExactPressuresOf', WHERE WHAT IT READS IS OF BULK AT MOST 1048576: true; the input reads as it did. -/
def fnExactPressuresOfUptoRow : OpenClaim := { program := "ytcgbagdpedpdpaa", sum := "f8049526ee22243b13015cbed45eaf063c277be539c346a91527ab02fb24b670", func := "loop.example/g01011/laws.FnExactPressuresOf", spec := "fnExactPressuresOf", unfollowed := true, recurses := true, apart := false, narrowed := true }
def FnExactPressuresOfUptoSaid : Prop := fnExactPressuresOfUptoRow.holds Try.pinned (OpenSpec.upto fnExactPressuresOfSpec)

/-- 'laws.FnExactLeastHead', WHERE WHAT IT READS IS OF BULK AT MOST 1048576: true; the input reads as it did. -/
def fnExactLeastHeadUptoRow : OpenClaim := { program := "ytcgbagdpedpdpaa", sum := "f8049526ee22243b13015cbed45eaf063c277be539c346a91527ab02fb24b670", func := "loop.example/g01011/laws.FnExactLeastHead", spec := "fnExactLeastHead", unfollowed := true, recurses := true, apart := false, narrowed := true }
def FnExactLeastHeadUptoSaid : Prop := fnExactLeastHeadUptoRow.holds Try.pinned (OpenSpec.upto fnExactLeastHeadSpec)

/-- 'laws.FnExactWorstNode', WHERE WHAT IT READS IS OF BULK AT MOST 1048576: true; the input reads as it did. -/
def fnExactWorstNodeUptoRow : OpenClaim := { program := "ytcgbagdpedpdpaa", sum := "f8049526ee22243b13015cbed45eaf063c277be539c346a91527ab02fb24b670", func := "loop.example/g01011/laws.FnExactWorstNode", spec := "fnExactWorstNode", unfollowed := true, recurses := true, apart := false, narrowed := true }
def FnExactWorstNodeUptoSaid : Prop := fnExactWorstNodeUptoRow.holds Try.pinned (OpenSpec.upto fnExactWorstNodeSpec)

end Rows
end Go.Proofs.Ytcgbagdpedpdpaa
