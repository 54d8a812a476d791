/- For every whole number of 64 bits the program's SteamPressure is the reference's SteamPressure, the number and the code. No condition. -/
import Derived.Test.YteifocbmholocaaPFnExactSteamPressurex2
import Derived.Test.YteifocbmholocaaMath
namespace Go.Proofs.Yteifocbmholocaa.Pure
open Go.RowKit Go.Proofs.Yteifocbmholocaa.PFnExactSteamPressure Go.Proofs.YteifocbmholocaaW.PrintWords Go.Proofs.YteifocbmholocaaW.PrintLast Go.Proofs.YteifocbmholocaaW.PrintMore Go.Proofs.YteifocbmholocaaM
set_option linter.unusedSimpArgs false
set_option linter.unusedVariables false
theorem boil_top : boilI 1200000 = 18796 := by
  rw [boil_at8 (by omega)]
  simp [lineI]
theorem FnExactSteamPressure : laws_FnExactSteamPressure.Pure := by
  intro t w0
  unfold laws_FnExactSteamPressure.f spec_SteamPressure.f impl_SteamPressure.f spec_l02Degrees.f impl_waterOk.f
  simp only [spec_l00In_.f, impl_within_.f, Option.bind_some]
  by_cases c : 0 ≤ t ∧ t ≤ 18000
  · unfold spec_l02Pressure_.f impl_steamPressure.f steamI
    rw [firstTrue_last _ 1199000 (decide_eq_true (by rw [show (1000 : Int) + ((1199000 : Nat) : Int) = 1200000 by omega, boil_top]; omega))]
    simp [c]
  · simp only [decide_eq_false c]; simp

end Go.Proofs.Yteifocbmholocaa.Pure
