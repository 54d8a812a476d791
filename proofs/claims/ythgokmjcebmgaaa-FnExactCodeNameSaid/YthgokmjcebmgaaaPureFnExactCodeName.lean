/- For every code the program's CodeName answers as the reference's CodeName does. No condition. -/
import Derived.Test.YthgokmjcebmgaaaPFnExactCodeNamex1
import Derived.Test.YthgokmjcebmgaaaMath
namespace Go.Proofs.Ythgokmjcebmgaaa.Pure
open Go.RowKit Go.Proofs.Ythgokmjcebmgaaa.PFnExactCodeName Go.Proofs.YthgokmjcebmgaaaW.PrintWords Go.Proofs.YthgokmjcebmgaaaW.PrintLast Go.Proofs.YthgokmjcebmgaaaW.PrintMore Go.Proofs.YthgokmjcebmgaaaM
set_option linter.unusedSimpArgs false
set_option linter.unusedVariables false
theorem code_spec (a0 : Int) : spec_CodeName.f a0 = impl_CodeName.f a0 := by
  unfold spec_CodeName.f impl_CodeName.f
  rw [Option.bind_some]
  have hl2 : (codeTab.length : Int) = 12 := rfl
  have hl : wrap64 ((codeTab.length : Int) - 1) = 11 := by rw [hl2]; exact w64 (by omega) (by omega)
  change (spec_l00In_.f a0 0 (wrap64 ((codeTab.length : Int) - 1))).bind (fun t104 => if t104 = true then (if 0 ≤ a0 then (if a0 < (codeTab.length : Int) then some (rdOf ByteArray.empty codeTab a0) else none) else none) else some (⟨#[]⟩ : ByteArray)) = _
  rw [hl, hl2]
  unfold spec_l00In_.f
  rw [Option.bind_some]
  by_cases c : 0 ≤ a0 ∧ a0 ≤ 11
  · rw [decide_eq_true c, if_pos rfl, if_pos c.1, if_pos (by omega), if_pos c]
    unfold rdOf
    simp
  · rw [decide_eq_false c, if_neg (by simp), if_neg c]
theorem FnExactCodeName : laws_FnExactCodeName.Pure := by
  intro a0 _
  unfold laws_FnExactCodeName.f
  rw [code_spec]
  have h : ∃ r, impl_CodeName.f a0 = some r := by
    unfold impl_CodeName.f
    split <;> exact ⟨_, rfl⟩
  obtain ⟨r, h⟩ := h
  rw [h]
  simp

end Go.Proofs.Ythgokmjcebmgaaa.Pure
