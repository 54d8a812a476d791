/- For all whole numbers of 64 bits the program's MarginTo is the reference's MarginTo, the number and the code. No condition. -/
import Derived.Test.YteifocbmholocaaPFnExactMarginTox2
import Derived.Test.YteifocbmholocaaMath
namespace Go.Proofs.Yteifocbmholocaa.Pure
open Go.RowKit Go.Proofs.Yteifocbmholocaa.PFnExactMarginTo Go.Proofs.YteifocbmholocaaW.PrintWords Go.Proofs.YteifocbmholocaaW.PrintLast Go.Proofs.YteifocbmholocaaW.PrintMore Go.Proofs.YteifocbmholocaaM
set_option linter.unusedSimpArgs false
set_option linter.unusedVariables false
theorem FnExactMarginTo : laws_FnExactMarginTo.Pure := by
  intro p t w0 w1
  unfold laws_FnExactMarginTo.f spec_MarginTo.f impl_MarginTo.f spec_l02Steam.f impl_steamOk.f spec_l02Degrees.f impl_waterOk.f
  simp only [spec_l00In_.f, impl_within_.f, Option.bind_some]
  by_cases c : 1000 ≤ p ∧ p ≤ 1200000
  · by_cases c2 : 0 ≤ t ∧ t ≤ 18000
    · unfold spec_l02Boiling_.f impl_boilingAt.f
      simp [c, c2]
    · simp only [decide_eq_true c, decide_eq_false c2]; simp
  · simp only [decide_eq_false c]; simp

end Go.Proofs.Yteifocbmholocaa.Pure
