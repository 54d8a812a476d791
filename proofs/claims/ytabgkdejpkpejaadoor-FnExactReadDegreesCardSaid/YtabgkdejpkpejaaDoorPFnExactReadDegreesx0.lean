-- Printed by a program of this session (wip/hprint.sh: the kit's print with hand-proved contracts put in); not by print.sh itself.
import Derived.Test.YtabgkdejpkpejaaDoorProg
import Derived.Below
import Derived.Deep.Draws
import Derived.Deep.AppendLies
import Derived.Maps.AppendAt
import Derived.OwnWalk
import Derived.Laws.BytesArg
import Derived.Laws.MakeOwn
import Derived.Laws.OwnMore
import Derived.Deep.OwnRows
import Derived.Tactics
import Derived.Lib.ConvBytes
import Derived.Laws.Slices
import Derived.WalkKit
import Derived.KernelRfl
import Derived.RowKit3
import Derived.Deep.LoopGhost
import Derived.Deep.QuietTactic
import Derived.BigQuiet
import Derived.WideLaws
import Derived.Deep.DeepCutAuto
import Derived.Deep.CutBlock
import Derived.Deep.RegionHeld3
import Derived.Laws.Rows
import Derived.Lib.AppendStr
import Derived.ArgAppend
import Derived.Laws.IdiomCopy
import Derived.OrdersHeld
import Derived.Laws.BitsLemmas
import Derived.RowKit
import Derived.OpenShut
import Derived.Calls
import Derived.Shelf.Abstract
import Derived.WalkSpells
import Derived.WalkLawsBesides
import Derived.Lib.SliceRun
import Derived.Great.BuildSlice
import Derived.Deep.RegionLaw
import Derived.Shelf.RegionOpenPlain
import Derived.Test.YtabgkdejpkpejaaDoorMath
import Derived.Test.YtabgkdejpkpejaaDoorMathN
import Derived.Test.YtabgkdejpkpejaaDoorMathP
import Derived.Test.YtabgkdejpkpejaaDoorMathQ
import Derived.Test.YtabgkdejpkpejaaDoorMathR
import Derived.Test.YtabgkdejpkpejaaDoorMathT
import Derived.Test.YtabgkdejpkpejaaDoorMathW
import Derived.Test.YtabgkdejpkpejaaDoorWWords
import Derived.Test.YtabgkdejpkpejaaDoorWLast
import Derived.Test.YtabgkdejpkpejaaDoorWTab
import Derived.Test.YtabgkdejpkpejaaDoorWFour
import Derived.Test.YtabgkdejpkpejaaDoorWQPut
import Derived.Test.YtabgkdejpkpejaaDoorWApart
import Derived.Test.YtabgkdejpkpejaaDoorWArr
import Derived.Test.YtabgkdejpkpejaaDoorWZeros
import Derived.Test.YtabgkdejpkpejaaDoorWFoot
import Derived.Test.YtabgkdejpkpejaaDoorWKept
import Derived.Test.YtabgkdejpkpejaaDoorWShare
import Derived.Test.YtabgkdejpkpejaaDoorWN
import Derived.Test.YtabgkdejpkpejaaDoorWFootNe
import Derived.Test.YtabgkdejpkpejaaDoorWAt
import Derived.Test.YtabgkdejpkpejaaDoorWEqStruct
import Derived.Test.YtabgkdejpkpejaaDoorWRepsOne
import Derived.Test.YtabgkdejpkpejaaDoorWInv
import Derived.Test.YtabgkdejpkpejaaDoorWInvWords
import Derived.Test.YtabgkdejpkpejaaDoorWGuard
import Derived.Test.YtabgkdejpkpejaaDoorWNEv
import Derived.Test.YtabgkdejpkpejaaDoorWMore
namespace Go.Proofs.YtabgkdejpkpejaaDoor.PFnExactReadDegrees
open Go.RowKit Go.Proofs.YtabgkdejpkpejaaDoorW.PrintWords Go.Proofs.YtabgkdejpkpejaaDoorW.PrintLast Go.Proofs.YtabgkdejpkpejaaDoorW.PrintMore Go.Proofs.YtabgkdejpkpejaaDoorM
attribute [local go_sem] max2_int min2_int max_two min_two max_three min_three max_four min_four   -- for this text's walks alone
set_option linter.unusedVariables false
set_option linter.unusedSimpArgs false



def errW : Option Int → Value
  | none => .nilIface
  | some c => .iface 0 (.int .i64 c)
theorem errW_none : errW none = .nilIface := rfl
theorem errW_some (c : Int) : errW (some c) = .iface 0 (.int .i64 c) := rfl

theorem info5 : (Tryd.prog.info? 5).map (fun i => (i.zero, i.size, i.bytes)) = some (some (.int .u8 0), 1, 1) := by kernel_rfl
-- the values' own types

end Go.Proofs.YtabgkdejpkpejaaDoor.PFnExactReadDegrees
