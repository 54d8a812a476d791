-- Words of the kit's print, shortened by a program of this session (wip/tools/prune.py): what no text of this claim names is left out.
import Derived.Test.YtcggfmmjjkdgnaaWTab
namespace Go.Proofs.YtcggfmmjjkdgnaaW.PrintLast
section
variable {P : Program} {ops : Array Oper} {Q : Exit → Act → World → Prop} {md : Region.Mode} {T : Bool × List (List Nat × List Nat)} {B : List Nat} {O : List Nat} {b : Nat → Bool} {i j n : Nat}
end
end Go.Proofs.YtcggfmmjjkdgnaaW.PrintLast
