-- Words of the kit's print, shortened by a program of this session (wip/tools/prune.py): what no text of this claim names is left out.
import Derived.Test.YtjeahkaghadldaaWInv
import Derived.Test.YtjeahkaghadldaaWFootNe
namespace Go.Proofs.YtjeahkaghadldaaW.PrintWords
open Go.RowKit
end Go.Proofs.YtjeahkaghadldaaW.PrintWords
namespace Go.Proofs.YtjeahkaghadldaaW.PrintLast
section
variable {ops : Array Oper} {a : Act} {o og : Oper} {g : Nat} {t : Tmp} {u : Bool}
end
end Go.Proofs.YtjeahkaghadldaaW.PrintLast
