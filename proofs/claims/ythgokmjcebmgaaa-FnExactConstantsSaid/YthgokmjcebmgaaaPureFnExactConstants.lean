/- The law of the constants answers true. No condition. -/
import Derived.Test.YthgokmjcebmgaaaPFnExactConstantsx1
import Derived.Test.YthgokmjcebmgaaaMath
namespace Go.Proofs.Ythgokmjcebmgaaa.Pure
open Go.RowKit Go.Proofs.Ythgokmjcebmgaaa.PFnExactConstants Go.Proofs.YthgokmjcebmgaaaW.PrintWords Go.Proofs.YthgokmjcebmgaaaW.PrintLast Go.Proofs.YthgokmjcebmgaaaW.PrintMore Go.Proofs.YthgokmjcebmgaaaM
set_option linter.unusedSimpArgs false
set_option linter.unusedVariables false
theorem FnExactConstants : laws_FnExactConstants.Pure := by
  unfold laws_FnExactConstants.Pure laws_FnExactConstants.f
  first | rfl | simp

end Go.Proofs.Ythgokmjcebmgaaa.Pure
