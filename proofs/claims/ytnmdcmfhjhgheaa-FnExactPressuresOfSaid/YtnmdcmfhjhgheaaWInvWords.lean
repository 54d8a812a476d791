-- Words of the kit's print, shortened by a program of this session (wip/tools/prune.py): what no text of this claim names is left out.
import Derived.Test.YtnmdcmfhjhgheaaWInv
import Derived.Test.YtnmdcmfhjhgheaaWFootNe
namespace Go.Proofs.YtnmdcmfhjhgheaaW.PrintWords
open Go.RowKit
end Go.Proofs.YtnmdcmfhjhgheaaW.PrintWords
namespace Go.Proofs.YtnmdcmfhjhgheaaW.PrintLast
section
variable {ops : Array Oper} {a : Act} {o og : Oper} {g : Nat} {t : Tmp} {u : Bool}
end
end Go.Proofs.YtnmdcmfhjhgheaaW.PrintLast
