-- Words of the kit's print, shortened by a program of this session (wip/tools/prune.py): what no text of this claim names is left out.
import Derived.Test.YtcgbagdpedpdpaaWInv
import Derived.Test.YtcgbagdpedpdpaaWFootNe
namespace Go.Proofs.YtcgbagdpedpdpaaW.PrintWords
open Go.RowKit
end Go.Proofs.YtcgbagdpedpdpaaW.PrintWords
namespace Go.Proofs.YtcgbagdpedpdpaaW.PrintLast
section
variable {ops : Array Oper} {a : Act} {o og : Oper} {g : Nat} {t : Tmp} {u : Bool}
end
end Go.Proofs.YtcgbagdpedpdpaaW.PrintLast
