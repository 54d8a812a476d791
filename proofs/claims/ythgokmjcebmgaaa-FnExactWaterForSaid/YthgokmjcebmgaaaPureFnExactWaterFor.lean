/- For all whole numbers of 64 bits the program's WaterFor is the reference's WaterFor, the number and the code. No condition. -/
import Derived.Test.YthgokmjcebmgaaaPFnExactWaterForx1
import Derived.Test.YthgokmjcebmgaaaMath
namespace Go.Proofs.Ythgokmjcebmgaaa.Pure
open Go.RowKit Go.Proofs.Ythgokmjcebmgaaa.PFnExactWaterFor Go.Proofs.YthgokmjcebmgaaaW.PrintWords Go.Proofs.YthgokmjcebmgaaaW.PrintLast Go.Proofs.YthgokmjcebmgaaaW.PrintMore Go.Proofs.YthgokmjcebmgaaaM
set_option linter.unusedSimpArgs false
set_option linter.unusedVariables false
theorem in_f (a lo hi : Int) : spec_l00In.f a lo hi = some (decide (lo ≤ a ∧ a ≤ hi)) := in_both a lo hi
theorem within_f (a lo hi : Int) : impl_within.f a lo hi = some (decide (lo ≤ a ∧ a ≤ hi)) := in_both a lo hi
theorem FnExactWaterFor : laws_FnExactWaterFor.Pure := by
  intro a b c w0 w1 w2
  refine ⟨1, ?_⟩
  unfold laws_FnExactWaterFor.f spec_WaterFor.f impl_WaterFor.f spec_l03Degrees.f impl_degreesOk.f
  simp only [in_f, within_f, Option.bind_some]
  by_cases c1 : 0 ≤ a ∧ a ≤ 100000000
  · simp only [decide_eq_true c1, if_true]
    by_cases c2 : -5000 ≤ b ∧ b ≤ 20000
    · simp only [decide_eq_true c2, if_true]
      by_cases c3 : -5000 ≤ c ∧ c ≤ 20000
      · simp only [decide_eq_true c3, Bool.not_true, spec_WaterFor.j0, impl_WaterFor.j0, Bool.false_eq_true, if_false]
        by_cases c4 : b ≤ c
        · simp [c4]
        · simp only [if_neg c4]
          unfold spec_l05Water.f impl_divUp.f impl_orNotFound.f
          rw [w64 (x := b - c) (by omega) (by omega), w64 (x := 4186 * (b - c)) (by omega) (by omega)]
          simp only [if_neg (show ¬ 4186 * (b - c) = 0 by omega), Option.bind_some]
          generalize wrap64 (Int.tdiv _ _) = t
          by_cases c5 : t > 100000
          · have c6 : ¬ t ≤ 100000 := by omega
            simp [c5, c6]
          · have c6 : t ≤ 100000 := by omega
            simp [c5, c6]
      · simp [decide_eq_false c3, spec_WaterFor.j0, impl_WaterFor.j0]
    · simp [decide_eq_false c2, spec_WaterFor.j0, impl_WaterFor.j0]
  · simp [decide_eq_false c1, spec_WaterFor.j0, impl_WaterFor.j0]

end Go.Proofs.Ythgokmjcebmgaaa.Pure
