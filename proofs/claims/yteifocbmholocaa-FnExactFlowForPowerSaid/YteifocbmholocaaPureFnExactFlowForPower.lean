/- For all whole numbers of 64 bits the program's FlowForPower is the reference's FlowForPower, the number and the code. No condition. -/
import Derived.Test.YteifocbmholocaaPFnExactFlowForPowerx2
import Derived.Test.YteifocbmholocaaMath
namespace Go.Proofs.Yteifocbmholocaa.Pure
open Go.RowKit Go.Proofs.Yteifocbmholocaa.PFnExactFlowForPower Go.Proofs.YteifocbmholocaaW.PrintWords Go.Proofs.YteifocbmholocaaW.PrintLast Go.Proofs.YteifocbmholocaaW.PrintMore Go.Proofs.YteifocbmholocaaM
set_option linter.unusedSimpArgs false
set_option linter.unusedVariables false
theorem FnExactFlowForPower : laws_FnExactFlowForPower.Pure := by
  intro a b c w0 w1 w2
  refine ⟨1, ?_⟩
  unfold laws_FnExactFlowForPower.f spec_FlowForPower.f impl_FlowForPower.f spec_l02Watts.f spec_l02Degrees.f
  simp only [spec_l00In_.f, Option.bind_some, spec_FlowForPower.j0]
  by_cases c1 : 0 ≤ a ∧ a ≤ 100000000
  · by_cases c2 : 0 ≤ b ∧ b ≤ 18000
    · by_cases c3 : 0 ≤ c ∧ c ≤ b
      · unfold spec_l02Needed_.f
        rw [if_pos (show (0 ≤ a ∧ a ≤ 100000000) ∧ (0 ≤ b ∧ b ≤ 18000) ∧ (0 ≤ c ∧ c ≤ b) from ⟨c1, c2, c3⟩)]
        simp only [decide_eq_true c1, decide_eq_true c2, decide_eq_true c3, if_pos (show 0 ≤ c ∧ c ≤ b ∧ b ≤ 18000 by omega), if_true, Option.bind_some, Bool.not_true, Bool.false_eq_true, if_false]
        have hk := firstTrue_le (fun i : Nat => decide (a ≤ powerI (i : Int) b c)) 100001
        generalize firstTrue (fun i : Nat => decide (a ≤ powerI (i : Int) b c)) 100001 = k at hk ⊢
        by_cases ck : k < 100001
        · rw [if_pos ck, if_neg (by omega)]; simp
        · rw [if_neg ck, if_pos (by omega)]; simp
      · rw [if_neg (show ¬ ((0 ≤ a ∧ a ≤ 100000000) ∧ (0 ≤ b ∧ b ≤ 18000) ∧ (0 ≤ c ∧ c ≤ b)) by omega)]
        simp only [decide_eq_true c1, decide_eq_true c2, decide_eq_false c3]; simp
    · rw [if_neg (show ¬ ((0 ≤ a ∧ a ≤ 100000000) ∧ (0 ≤ b ∧ b ≤ 18000) ∧ (0 ≤ c ∧ c ≤ b)) by omega)]
      simp only [decide_eq_true c1, decide_eq_false c2]; simp
  · rw [if_neg (show ¬ ((0 ≤ a ∧ a ≤ 100000000) ∧ (0 ≤ b ∧ b ≤ 18000) ∧ (0 ≤ c ∧ c ≤ b)) by omega)]
    simp only [decide_eq_false c1]; simp

end Go.Proofs.Yteifocbmholocaa.Pure
