/- Plain laws on curves of pumps and lists of lists: what is asked of a curve, what a list's size is. No condition. -/
import Derived.Test.YtabgkdejpkpejaaDoorMath
import Derived.Test.YtabgkdejpkpejaaDoorMathN
import Derived.Test.YtabgkdejpkpejaaDoorMathP
namespace Go.Proofs.YtabgkdejpkpejaaDoorM
open Go.RowKit Go.Proofs.YtabgkdejpkpejaaDoorW.PrintWords
set_option linter.unusedVariables false
set_option linter.unusedSimpArgs false
end Go.Proofs.YtabgkdejpkpejaaDoorM
