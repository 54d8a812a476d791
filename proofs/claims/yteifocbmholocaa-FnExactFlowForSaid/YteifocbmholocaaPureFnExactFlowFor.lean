/- For every pipe and drop the program's FlowFor answers as the reference's FlowFor does. No condition. -/
import Derived.Test.YteifocbmholocaaPFnExactFlowForx3
import Derived.Test.YteifocbmholocaaMath
namespace Go.Proofs.Yteifocbmholocaa.Pure
open Go.RowKit Go.Proofs.Yteifocbmholocaa.PFnExactFlowFor Go.Proofs.YteifocbmholocaaW.PrintWords Go.Proofs.YteifocbmholocaaW.PrintLast Go.Proofs.YteifocbmholocaaW.PrintMore Go.Proofs.YteifocbmholocaaM
set_option linter.unusedSimpArgs false
set_option linter.unusedVariables false
theorem FnExactFlowFor : ∀ (a0_0 : ByteArray) (a0_1 : Int) (a0_2 : Int) (a0_3 : Int) (a0_4 : Int) (a0_5 : Int) (a1 : Int), (a0_0.size ≤ 9223372036854775807) → ((Lit.int .i64 a0_1).wf = true) → ((Lit.int .i64 a0_2).wf = true) → ((Lit.int .i64 a0_3).wf = true) → ((Lit.int .i64 a0_4).wf = true) → ((Lit.int .i64 a0_5).wf = true) → ((Lit.int .i64 a1).wf = true) → laws_FnExactFlowFor.f a0_0 a0_1 a0_2 a0_3 a0_4 a0_5 a1 = some true := by
  intro s f t l d x m hs _ _ _ _ _ _
  unfold laws_FnExactFlowFor.f laws_szPipe.f laws_toPipe.f spec_FlowFor.f impl_FlowFor.f
  have hw : wrap64 (1048576 - (s.size : Int)) = 1048576 - (s.size : Int) := w64 (by omega) (by omega)
  rw [hw]
  by_cases hn : 1048576 - (s.size : Int) < 0
  · rw [if_pos hn]; simp
  · rw [if_neg hn]
    have h9 : s.size ≤ 9000000000000000000 := by omega
    by_cases c : pipeOk s f t l d x = true
    · by_cases c2 : 0 ≤ m ∧ m ≤ 100000000
      · simp [hn, h9, c, c2]
      · simp [hn, h9, c, c2]
    · simp [hn, h9, c]

end Go.Proofs.Yteifocbmholocaa.Pure
