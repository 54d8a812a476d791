/- For every whole number of 64 bits the program's WaterDensity is the reference's WaterDensity, the number and the code. No condition. -/
import Derived.Test.YteifocbmholocaaPFnExactWaterDensityx2
import Derived.Test.YteifocbmholocaaMath
namespace Go.Proofs.Yteifocbmholocaa.Pure
open Go.RowKit Go.Proofs.Yteifocbmholocaa.PFnExactWaterDensity Go.Proofs.YteifocbmholocaaW.PrintWords Go.Proofs.YteifocbmholocaaW.PrintLast Go.Proofs.YteifocbmholocaaW.PrintMore Go.Proofs.YteifocbmholocaaM
set_option linter.unusedSimpArgs false
set_option linter.unusedVariables false
theorem FnExactWaterDensity : laws_FnExactWaterDensity.Pure := by
  intro t w0
  unfold laws_FnExactWaterDensity.f spec_WaterDensity.f impl_WaterDensity.f spec_l02Degrees.f impl_waterOk.f
  simp only [spec_l00In_.f, impl_within_.f, Option.bind_some]
  by_cases c : 0 ≤ t ∧ t ≤ 18000
  · unfold spec_l02Density_.f impl_waterDensity.f
    simp [c]
  · simp only [decide_eq_false c]; simp

end Go.Proofs.Yteifocbmholocaa.Pure
