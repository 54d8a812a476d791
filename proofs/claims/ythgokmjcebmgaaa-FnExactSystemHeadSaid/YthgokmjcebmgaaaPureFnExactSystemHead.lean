/- For all whole numbers of 64 bits the program's SystemHead is the reference's SystemHead, the number and the code. No condition. -/
import Derived.Test.YthgokmjcebmgaaaPFnExactSystemHeadx1
import Derived.Test.YthgokmjcebmgaaaMath
namespace Go.Proofs.Ythgokmjcebmgaaa.Pure
open Go.RowKit Go.Proofs.Ythgokmjcebmgaaa.PFnExactSystemHead Go.Proofs.YthgokmjcebmgaaaW.PrintWords Go.Proofs.YthgokmjcebmgaaaW.PrintLast Go.Proofs.YthgokmjcebmgaaaW.PrintMore Go.Proofs.YthgokmjcebmgaaaM
set_option linter.unusedSimpArgs false
set_option linter.unusedVariables false
theorem in_f (a lo hi : Int) : spec_l00In.f a lo hi = some (decide (lo ≤ a ∧ a ≤ hi)) := in_both a lo hi
theorem within_f (a lo hi : Int) : impl_within.f a lo hi = some (decide (lo ≤ a ∧ a ≤ hi)) := in_both a lo hi
theorem sdiv {a b : Int} (hb : b ≠ 0) (a1 : -2305843009213693952 ≤ a) (a2 : a ≤ 2305843009213693952) (b1 : -2305843009213693952 ≤ b) (b2 : b ≤ 2305843009213693952) : spec_l01Div.f a b = some (rdiv a b) :=
  spec_div a b hb a1 a2 b1 b2
theorem idiv {a b : Int} (hb : b ≠ 0) (a1 : -2305843009213693952 ≤ a) (a2 : a ≤ 2305843009213693952) (b1 : -2305843009213693952 ≤ b) (b2 : b ≤ 2305843009213693952) : impl_divRound.f a b = some (rdiv a b) := by
  unfold impl_divRound.f impl_abs.f mx
  rw [if_neg hb]
  simp only [Option.bind_some]
  have hm : Int.natAbs (Int.tmod a b) < Int.natAbs b := by rw [Int.natAbs_tmod]; exact Nat.mod_lt _ (by omega)
  rw [w64 (x := -Int.tmod a b) (by omega) (by omega), w64 (x := -b) (by omega) (by omega)]
  exact impl_div a b hb a1 a2 b1 b2 _ _ rfl rfl
theorem FnExactSystemHead : laws_FnExactSystemHead.Pure := by
  intro a b c w0 w1 w2
  unfold laws_FnExactSystemHead.f spec_SystemHead.f impl_SystemHead.f spec_l08System.f spec_l02Flow.f impl_systemOk.f impl_headOk.f spec_l08Needs.f impl_systemHead.f
  simp only [in_f, within_f, Option.bind_some]
  by_cases c1 : 0 ≤ a ∧ a ≤ 2000000
  · simp only [decide_eq_true c1, if_true]
    by_cases c2 : 0 ≤ b ∧ b ≤ 100000000
    · simp only [decide_eq_true c2, if_true, Option.bind_some]
      by_cases c3 : 0 ≤ c ∧ c ≤ 100000
      · simp only [decide_eq_true c3, if_true, Option.bind_some]
        have hm := mulb (a := b) (b := c) 100000000 100000 (by omega) (by omega) (by omega) (by omega)
        have hm2 := mulb (a := b * c) (b := c) 10000000000000 100000 (by omega) (by omega) (by omega) (by omega)
        rw [w64 (x := b * c) (by omega) (by omega), w64 (x := b * c * c) (by omega) (by omega), sdiv (by omega) (by omega) (by omega) (by omega) (by omega), idiv (by omega) (by omega) (by omega) (by omega) (by omega)]
        simp
      · simp only [decide_eq_false c3]; simp
    · simp only [decide_eq_false c2]; simp
  · simp only [decide_eq_false c1]; simp

end Go.Proofs.Ythgokmjcebmgaaa.Pure
