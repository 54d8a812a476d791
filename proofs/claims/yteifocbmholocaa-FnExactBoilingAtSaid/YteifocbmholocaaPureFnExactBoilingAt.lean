/- For every whole number of 64 bits the program's BoilingAt is the reference's BoilingAt, the number and the code. No condition. -/
import Derived.Test.YteifocbmholocaaPFnExactBoilingAtx2
import Derived.Test.YteifocbmholocaaMath
namespace Go.Proofs.Yteifocbmholocaa.Pure
open Go.RowKit Go.Proofs.Yteifocbmholocaa.PFnExactBoilingAt Go.Proofs.YteifocbmholocaaW.PrintWords Go.Proofs.YteifocbmholocaaW.PrintLast Go.Proofs.YteifocbmholocaaW.PrintMore Go.Proofs.YteifocbmholocaaM
set_option linter.unusedSimpArgs false
set_option linter.unusedVariables false
theorem FnExactBoilingAt : laws_FnExactBoilingAt.Pure := by
  intro t w0
  unfold laws_FnExactBoilingAt.f spec_BoilingAt.f impl_BoilingAt.f spec_l02Steam.f impl_steamOk.f
  simp only [spec_l00In_.f, impl_within_.f, Option.bind_some]
  by_cases c : 1000 ≤ t ∧ t ≤ 1200000
  · unfold spec_l02Boiling_.f impl_boilingAt.f
    simp [c]
  · simp only [decide_eq_false c]; simp

end Go.Proofs.Yteifocbmholocaa.Pure
