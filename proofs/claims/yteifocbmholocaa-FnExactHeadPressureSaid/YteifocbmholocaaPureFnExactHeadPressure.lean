/- For all whole numbers of 64 bits the program's HeadPressure is the reference's HeadPressure, the number and the code. No condition. -/
import Derived.Test.YteifocbmholocaaPFnExactHeadPressurex2
import Derived.Test.YteifocbmholocaaMath
namespace Go.Proofs.Yteifocbmholocaa.Pure
open Go.RowKit Go.Proofs.Yteifocbmholocaa.PFnExactHeadPressure Go.Proofs.YteifocbmholocaaW.PrintWords Go.Proofs.YteifocbmholocaaW.PrintLast Go.Proofs.YteifocbmholocaaW.PrintMore Go.Proofs.YteifocbmholocaaM
set_option linter.unusedSimpArgs false
set_option linter.unusedVariables false
theorem FnExactHeadPressure : laws_FnExactHeadPressure.Pure := by
  intro l a w0 w1
  refine ⟨1, ?_⟩
  unfold laws_FnExactHeadPressure.f spec_HeadPressure.f impl_HeadPressure.f spec_l02Degrees.f impl_waterOk.f
  simp only [spec_l00In_.f, impl_within_.f, Option.bind_some, spec_HeadPressure.j0, impl_HeadPressure.j0]
  by_cases c : -200000 ≤ l ∧ l ≤ 200000
  · by_cases c2 : 0 ≤ a ∧ a ≤ 18000
    · unfold spec_l02Density_.f impl_waterDensity.f
      have ha := dens_range a c2.1 c2.2
      have hm := mulb (a := densI a) (b := l) 100000 200000 (by omega) (by omega) (by omega) (by omega)
      simp only [decide_eq_true c, decide_eq_true c2, if_pos c2, if_true, Option.bind_some, Bool.not_true, Bool.false_eq_true, if_false]
      rw [w64 (x := densI a * l) (by omega) (by omega), w64 (x := densI a * l * 981) (by omega) (by omega)]
      unfold spec_l01Div_.f impl_divRound.f
      rw [if_pos ⟨by omega, by omega, by omega, by omega, by omega⟩]
      simp
    · simp only [decide_eq_true c, decide_eq_false c2]; simp
  · simp only [decide_eq_false c]; simp

end Go.Proofs.Yteifocbmholocaa.Pure
