/- For all whole numbers of 64 bits the program's Blend is the reference's Blend. No condition. -/
import Derived.Test.YteifocbmholocaaPFnExactBlendx1
import Derived.Test.YteifocbmholocaaMath
namespace Go.Proofs.Yteifocbmholocaa.Pure
open Go.RowKit Go.Proofs.Yteifocbmholocaa.PFnExactBlend Go.Proofs.YteifocbmholocaaW.PrintWords Go.Proofs.YteifocbmholocaaW.PrintLast Go.Proofs.YteifocbmholocaaW.PrintMore Go.Proofs.YteifocbmholocaaM
set_option linter.unusedSimpArgs false
set_option linter.unusedVariables false
theorem FnExactBlend : laws_FnExactBlend.Pure := by
  intro a0 a1 a2 a3 a4 w0 w1 w2 w3 w4
  unfold laws_FnExactBlend.f spec_Blend.f impl_Blend.f inMil
  simp only [spec_l00In_.f, Option.bind_some]
  by_cases c0 : -1000000 ≤ a0 ∧ a0 ≤ 1000000
  · by_cases c2 : -1000000 ≤ a2 ∧ a2 ≤ 1000000
    · by_cases c1 : -1000000 ≤ a1 ∧ a1 ≤ 1000000
      · by_cases c3 : -1000000 ≤ a3 ∧ a3 ≤ 1000000
        · simp only [decide_eq_true c0, decide_eq_true c1, decide_eq_true c2, decide_eq_true c3, if_true, and_self]
          unfold spec_l01Line_.f
          rw [if_pos ⟨by omega, by omega, by omega, by omega⟩]
          simp
        · simp [decide_eq_true c0, decide_eq_true c1, decide_eq_true c2, decide_eq_false c3]
      · simp [decide_eq_true c0, decide_eq_false c1, decide_eq_true c2]
    · simp [decide_eq_true c0, decide_eq_false c2]
  · simp [decide_eq_false c0]

end Go.Proofs.Yteifocbmholocaa.Pure
