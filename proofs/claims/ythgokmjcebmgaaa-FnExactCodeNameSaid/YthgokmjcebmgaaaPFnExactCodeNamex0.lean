-- Printed by a program of this session (wip/hprint.sh: the kit's print with hand-proved contracts put in); not by print.sh itself.
import Derived.Test.YthgokmjcebmgaaaProg
import Derived.Below
import Derived.Deep.Draws
import Derived.Deep.AppendLies
import Derived.Maps.AppendAt
import Derived.OwnWalk
import Derived.Laws.BytesArg
import Derived.Laws.MakeOwn
import Derived.Laws.OwnMore
import Derived.Deep.OwnRows
import Derived.Tactics
import Derived.Lib.ConvBytes
import Derived.Laws.Slices
import Derived.WalkKit
import Derived.KernelRfl
import Derived.RowKit3
import Derived.Deep.LoopGhost
import Derived.Deep.QuietTactic
import Derived.BigQuiet
import Derived.WideLaws
import Derived.Deep.DeepCutAuto
import Derived.Deep.CutBlock
import Derived.Deep.RegionHeld3
import Derived.Laws.Rows
import Derived.Lib.AppendStr
import Derived.ArgAppend
import Derived.Laws.IdiomCopy
import Derived.OrdersHeld
import Derived.Laws.BitsLemmas
import Derived.RowKit
import Derived.OpenShut
import Derived.Calls
import Derived.Shelf.Abstract
import Derived.WalkSpells
import Derived.WalkLawsBesides
import Derived.Lib.SliceRun
import Derived.Great.BuildSlice
import Derived.Test.YthgokmjcebmgaaaMath
import Derived.Test.YthgokmjcebmgaaaMathN
import Derived.Test.YthgokmjcebmgaaaMathP
import Derived.Test.YthgokmjcebmgaaaWWords
import Derived.Test.YthgokmjcebmgaaaWLast
import Derived.Test.YthgokmjcebmgaaaWTab
import Derived.Test.YthgokmjcebmgaaaWFour
import Derived.Test.YthgokmjcebmgaaaWQPut
import Derived.Test.YthgokmjcebmgaaaWApart
import Derived.Test.YthgokmjcebmgaaaWArr
import Derived.Test.YthgokmjcebmgaaaWZeros
import Derived.Test.YthgokmjcebmgaaaWFoot
import Derived.Test.YthgokmjcebmgaaaWKept
import Derived.Test.YthgokmjcebmgaaaWShare
import Derived.Test.YthgokmjcebmgaaaWN
import Derived.Test.YthgokmjcebmgaaaWFootNe
import Derived.Test.YthgokmjcebmgaaaWAt
import Derived.Test.YthgokmjcebmgaaaWEqStruct
import Derived.Test.YthgokmjcebmgaaaWRepsOne
import Derived.Test.YthgokmjcebmgaaaWInv
import Derived.Test.YthgokmjcebmgaaaWInvWords
import Derived.Test.YthgokmjcebmgaaaWGuard
import Derived.Test.YthgokmjcebmgaaaWNEv
import Derived.Test.YthgokmjcebmgaaaWMore
namespace Go.Proofs.Ythgokmjcebmgaaa.PFnExactCodeName
open Go.RowKit Go.Proofs.YthgokmjcebmgaaaW.PrintWords Go.Proofs.YthgokmjcebmgaaaW.PrintLast Go.Proofs.YthgokmjcebmgaaaW.PrintMore
attribute [local go_sem] max2_int min2_int max_two min_two max_three min_three max_four min_four   -- for this text's walks alone
set_option linter.unusedVariables false
set_option linter.unusedSimpArgs false



def errW : Option Int → Value
  | none => .nilIface
  | some c => .iface 0 (.int .i64 c)
theorem errW_none : errW none = .nilIface := rfl
theorem errW_some (c : Int) : errW (some c) = .iface 0 (.int .i64 c) := rfl

theorem info9 : (Try.prog.info? 9).map (fun i => (i.zero, i.size, i.bytes)) = some (some (.string ⟨#[]⟩), 1, 16) := by kernel_rfl
-- the values' own types

end Go.Proofs.Ythgokmjcebmgaaa.PFnExactCodeName
