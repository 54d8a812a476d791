-- Words of the kit's print, shortened by a program of this session (wip/tools/prune.py): what no text of this claim names is left out.
import Derived.Test.YtabgkdejpkpejaaDoorWInv
import Derived.Test.YtabgkdejpkpejaaDoorWFootNe
namespace Go.Proofs.YtabgkdejpkpejaaDoorW.PrintWords
open Go.RowKit
end Go.Proofs.YtabgkdejpkpejaaDoorW.PrintWords
namespace Go.Proofs.YtabgkdejpkpejaaDoorW.PrintLast
section
variable {ops : Array Oper} {a : Act} {o og : Oper} {g : Nat} {t : Tmp} {u : Bool}
end
end Go.Proofs.YtabgkdejpkpejaaDoorW.PrintLast
