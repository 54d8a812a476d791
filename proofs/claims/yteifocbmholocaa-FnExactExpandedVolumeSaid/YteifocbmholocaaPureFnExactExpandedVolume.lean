/- For all whole numbers of 64 bits the program's ExpandedVolume is the reference's ExpandedVolume, the number and the code. No condition. -/
import Derived.Test.YteifocbmholocaaPFnExactExpandedVolumex2
import Derived.Test.YteifocbmholocaaMath
namespace Go.Proofs.Yteifocbmholocaa.Pure
open Go.RowKit Go.Proofs.Yteifocbmholocaa.PFnExactExpandedVolume Go.Proofs.YteifocbmholocaaW.PrintWords Go.Proofs.YteifocbmholocaaW.PrintLast Go.Proofs.YteifocbmholocaaW.PrintMore Go.Proofs.YteifocbmholocaaM
set_option linter.unusedSimpArgs false
set_option linter.unusedVariables false
theorem FnExactExpandedVolume : laws_FnExactExpandedVolume.Pure := by
  intro l a b w0 w1 w2
  refine ⟨1, ?_⟩
  unfold laws_FnExactExpandedVolume.f spec_ExpandedVolume.f impl_ExpandedVolume.f spec_l02Degrees.f impl_waterOk.f
  simp only [spec_l00In_.f, impl_within_.f, Option.bind_some, spec_ExpandedVolume.j0, impl_ExpandedVolume.j0]
  by_cases c : 0 ≤ l ∧ l ≤ 1000000000
  · by_cases c2 : 0 ≤ a ∧ a ≤ 18000
    · by_cases c3 : 0 ≤ b ∧ b ≤ 18000
      · unfold spec_l02Density_.f impl_waterDensity.f
        have ha := dens_range a c2.1 c2.2
        have hb := dens_range b c3.1 c3.2
        have hm := mulb (a := l) (b := densI a) 1000000000 100000 (by omega) (by omega) (by omega) (by omega)
        simp only [decide_eq_true c, decide_eq_true c2, decide_eq_true c3, if_pos c2, if_pos c3, if_true, Option.bind_some, Bool.not_true, Bool.false_eq_true, if_false]
        rw [w64 (x := l * densI a) (by omega) (by omega)]
        unfold spec_l01Div_.f impl_divRound.f
        rw [if_pos ⟨by omega, by omega, by omega, by omega, by omega⟩]
        simp
      · simp only [decide_eq_true c, decide_eq_true c2, decide_eq_false c3]; simp
    · simp only [decide_eq_true c, decide_eq_false c2]; simp
  · simp only [decide_eq_false c]; simp

end Go.Proofs.Yteifocbmholocaa.Pure
