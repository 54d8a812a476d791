-- Words of the kit's print, shortened by a program of this session (wip/tools/prune.py): what no text of this claim names is left out.
import Derived.Test.YtnmdcmfhjhgheaaWWords
import Derived.Laws.StructEq
namespace Go.Proofs.YtnmdcmfhjhgheaaW.PrintWords
open Go.RowKit
section
variable {P : Program} {d : Nat} {xs ys : Array Value} {f : Field} {fs : List Field} {a b : Value} {r s : Bool} {w : World}
end
end Go.Proofs.YtnmdcmfhjhgheaaW.PrintWords
