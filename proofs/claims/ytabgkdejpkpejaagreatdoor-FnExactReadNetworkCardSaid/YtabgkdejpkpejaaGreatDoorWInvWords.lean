-- Words of the kit's print, shortened by a program of this session (wip/tools/prune.py): what no text of this claim names is left out.
import Derived.Test.YtabgkdejpkpejaaGreatDoorWInv
import Derived.Test.YtabgkdejpkpejaaGreatDoorWFootNe
namespace Go.Proofs.YtabgkdejpkpejaaGreatDoorW.PrintWords
open Go.RowKit
end Go.Proofs.YtabgkdejpkpejaaGreatDoorW.PrintWords
namespace Go.Proofs.YtabgkdejpkpejaaGreatDoorW.PrintLast
section
variable {ops : Array Oper} {a : Act} {o og : Oper} {g : Nat} {t : Tmp} {u : Bool}
end
end Go.Proofs.YtabgkdejpkpejaaGreatDoorW.PrintLast
