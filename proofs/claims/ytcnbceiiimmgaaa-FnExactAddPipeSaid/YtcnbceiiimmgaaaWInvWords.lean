-- Words of the kit's print, shortened by a program of this session (wip/tools/prune.py): what no text of this claim names is left out.
import Derived.Test.YtcnbceiiimmgaaaWInv
import Derived.Test.YtcnbceiiimmgaaaWFootNe
namespace Go.Proofs.YtcnbceiiimmgaaaW.PrintWords
open Go.RowKit
end Go.Proofs.YtcnbceiiimmgaaaW.PrintWords
namespace Go.Proofs.YtcnbceiiimmgaaaW.PrintLast
section
variable {ops : Array Oper} {a : Act} {o og : Oper} {g : Nat} {t : Tmp} {u : Bool}
end
end Go.Proofs.YtcnbceiiimmgaaaW.PrintLast
