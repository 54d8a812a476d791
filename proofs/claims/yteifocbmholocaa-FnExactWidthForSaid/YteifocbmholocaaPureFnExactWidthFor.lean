/- For every pipe, flow and drop the program's WidthFor answers as the reference's WidthFor does. No condition. -/
import Derived.Test.YteifocbmholocaaPFnExactWidthForx3
import Derived.Test.YteifocbmholocaaMath
namespace Go.Proofs.Yteifocbmholocaa.Pure
open Go.RowKit Go.Proofs.Yteifocbmholocaa.PFnExactWidthFor Go.Proofs.YteifocbmholocaaW.PrintWords Go.Proofs.YteifocbmholocaaW.PrintLast Go.Proofs.YteifocbmholocaaW.PrintMore Go.Proofs.YteifocbmholocaaM
set_option linter.unusedSimpArgs false
set_option linter.unusedVariables false
theorem FnExactWidthFor : ∀ (a0_0 : ByteArray) (a0_1 : Int) (a0_2 : Int) (a0_3 : Int) (a0_4 : Int) (a0_5 : Int) (a1 : Int) (a2 : Int), (a0_0.size ≤ 9223372036854775807) → ((Lit.int .i64 a0_1).wf = true) → ((Lit.int .i64 a0_2).wf = true) → ((Lit.int .i64 a0_3).wf = true) → ((Lit.int .i64 a0_4).wf = true) → ((Lit.int .i64 a0_5).wf = true) → ((Lit.int .i64 a1).wf = true) → ((Lit.int .i64 a2).wf = true) → laws_FnExactWidthFor.f a0_0 a0_1 a0_2 a0_3 a0_4 a0_5 a1 a2 = some true := by
  intro s f t l d x q m hs _ _ _ _ _ _ _
  unfold laws_FnExactWidthFor.f laws_szPipe.f laws_toPipe.f spec_WidthFor.f impl_WidthFor.f
  have hw : wrap64 (1048576 - (s.size : Int)) = 1048576 - (s.size : Int) := w64 (by omega) (by omega)
  rw [hw]
  by_cases hn : 1048576 - (s.size : Int) < 0
  · rw [if_pos hn]; simp
  · rw [if_neg hn]
    have h9 : s.size ≤ 9000000000000000000 := by omega
    simp [hn, h9]

end Go.Proofs.Yteifocbmholocaa.Pure
