-- Words of the kit's print, shortened by a program of this session (wip/tools/prune.py): what no text of this claim names is left out.
import Derived.Test.YtcggfmmjjkdgnaaWWords
import Derived.Laws.StructEq
namespace Go.Proofs.YtcggfmmjjkdgnaaW.PrintWords
open Go.RowKit
section
variable {P : Program} {d : Nat} {xs ys : Array Value} {f : Field} {fs : List Field} {a b : Value} {r s : Bool} {w : World}
end
end Go.Proofs.YtcggfmmjjkdgnaaW.PrintWords
