-- Printed by a program of this session (wip/hprint.sh: the kit's print with hand-proved contracts put in); not by print.sh itself.
import Derived.Test.YteifocbmholocaaProg
import Derived.Below
import Derived.Deep.Draws
import Derived.Deep.AppendLies
import Derived.Maps.AppendAt
import Derived.OwnWalk
import Derived.Laws.BytesArg
import Derived.Laws.MakeOwn
import Derived.Laws.OwnMore
import Derived.Deep.OwnRows
import Derived.Tactics
import Derived.Lib.ConvBytes
import Derived.Laws.Slices
import Derived.WalkKit
import Derived.KernelRfl
import Derived.RowKit3
import Derived.Deep.LoopGhost
import Derived.Deep.QuietTactic
import Derived.BigQuiet
import Derived.WideLaws
import Derived.Deep.DeepCutAuto
import Derived.Deep.CutBlock
import Derived.Deep.RegionHeld3
import Derived.Laws.Rows
import Derived.Lib.AppendStr
import Derived.ArgAppend
import Derived.Laws.IdiomCopy
import Derived.OrdersHeld
import Derived.Laws.BitsLemmas
import Derived.RowKit
import Derived.OpenShut
import Derived.Calls
import Derived.Shelf.Abstract
import Derived.WalkSpells
import Derived.WalkLawsBesides
import Derived.Lib.SliceRun
import Derived.Great.BuildSlice
import Derived.Test.YteifocbmholocaaMath
import Derived.Test.YteifocbmholocaaMathN
import Derived.Test.YteifocbmholocaaMathP
import Derived.Test.YteifocbmholocaaWWords
import Derived.Test.YteifocbmholocaaWLast
import Derived.Test.YteifocbmholocaaWTab
import Derived.Test.YteifocbmholocaaWFour
import Derived.Test.YteifocbmholocaaWQPut
import Derived.Test.YteifocbmholocaaWApart
import Derived.Test.YteifocbmholocaaWArr
import Derived.Test.YteifocbmholocaaWZeros
import Derived.Test.YteifocbmholocaaWFoot
import Derived.Test.YteifocbmholocaaWKept
import Derived.Test.YteifocbmholocaaWShare
import Derived.Test.YteifocbmholocaaWN
import Derived.Test.YteifocbmholocaaWFootNe
import Derived.Test.YteifocbmholocaaWAt
import Derived.Test.YteifocbmholocaaWEqStruct
import Derived.Test.YteifocbmholocaaWRepsOne
import Derived.Test.YteifocbmholocaaWInv
import Derived.Test.YteifocbmholocaaWInvWords
import Derived.Test.YteifocbmholocaaWGuard
import Derived.Test.YteifocbmholocaaWNEv
import Derived.Test.YteifocbmholocaaWMore
namespace Go.Proofs.Yteifocbmholocaa.PFnExactWidthFor
open Go.RowKit Go.Proofs.YteifocbmholocaaW.PrintWords Go.Proofs.YteifocbmholocaaW.PrintLast Go.Proofs.YteifocbmholocaaW.PrintMore
attribute [local go_sem] max2_int min2_int max_two min_two max_three min_three max_four min_four   -- for this text's walks alone
set_option linter.unusedVariables false
set_option linter.unusedSimpArgs false



def errW : Option Int → Value
  | none => .nilIface
  | some c => .iface 0 (.int .i64 c)
theorem errW_none : errW none = .nilIface := rfl
theorem errW_some (c : Int) : errW (some c) = .iface 0 (.int .i64 c) := rfl

-- the values' own types

end Go.Proofs.Yteifocbmholocaa.PFnExactWidthFor
