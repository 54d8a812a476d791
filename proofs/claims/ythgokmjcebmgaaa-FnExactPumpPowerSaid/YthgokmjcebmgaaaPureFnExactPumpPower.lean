/- For all whole numbers of 64 bits the program's PumpPower is the reference's PumpPower, the number and the code. No condition. -/
import Derived.Test.YthgokmjcebmgaaaPFnExactPumpPowerx2
import Derived.Test.YthgokmjcebmgaaaMath
namespace Go.Proofs.Ythgokmjcebmgaaa.Pure
open Go.RowKit Go.Proofs.Ythgokmjcebmgaaa.PFnExactPumpPower Go.Proofs.YthgokmjcebmgaaaW.PrintWords Go.Proofs.YthgokmjcebmgaaaW.PrintLast Go.Proofs.YthgokmjcebmgaaaW.PrintMore Go.Proofs.YthgokmjcebmgaaaM
set_option linter.unusedSimpArgs false
set_option linter.unusedVariables false
theorem in_f (a lo hi : Int) : spec_l00In.f a lo hi = some (decide (lo ≤ a ∧ a ≤ hi)) := in_both a lo hi
theorem within_f (a lo hi : Int) : impl_within.f a lo hi = some (decide (lo ≤ a ∧ a ≤ hi)) := in_both a lo hi
theorem sdiv {a b : Int} (hb : b ≠ 0) (a1 : -2305843009213693952 ≤ a) (a2 : a ≤ 2305843009213693952) (b1 : -2305843009213693952 ≤ b) (b2 : b ≤ 2305843009213693952) : spec_l01Div.f a b = some (rdiv a b) :=
  spec_div a b hb a1 a2 b1 b2
theorem idiv {a b : Int} (hb : b ≠ 0) (a1 : -2305843009213693952 ≤ a) (a2 : a ≤ 2305843009213693952) (b1 : -2305843009213693952 ≤ b) (b2 : b ≤ 2305843009213693952) : impl_divRound.f a b = some (rdiv a b) := by
  unfold impl_divRound.f impl_abs.f mx
  rw [if_neg hb]
  simp only [Option.bind_some]
  have hm : Int.natAbs (Int.tmod a b) < Int.natAbs b := by rw [Int.natAbs_tmod]; exact Nat.mod_lt _ (by omega)
  rw [w64 (x := -Int.tmod a b) (by omega) (by omega), w64 (x := -b) (by omega) (by omega)]
  exact impl_div a b hb a1 a2 b1 b2 _ _ rfl rfl
theorem FnExactPumpPower : laws_FnExactPumpPower.Pure := by
  intro a b w0 w1
  refine ⟨1, ?_⟩
  unfold laws_FnExactPumpPower.f spec_PumpPower.f impl_PumpPower.f spec_l03Press.f spec_l03Flow.f impl_pressureOk.f impl_flowOk.f
  simp only [in_f, within_f, Option.bind_some]
  by_cases c1 : 0 ≤ a ∧ a ≤ 100000000
  · simp only [decide_eq_true c1, if_true]
    by_cases c2 : -100000 ≤ b ∧ b ≤ 100000
    · simp only [decide_eq_true c2, Bool.not_true, spec_PumpPower.j0, impl_PumpPower.j0, Bool.false_eq_true, if_false]
      unfold spec_l03Abs.f spec_l00Max.f impl_abs.f mx
      rw [w64 (x := -b) (by omega) (by omega)]
      obtain ⟨t, ht, ht'⟩ : ∃ t : Int, t = (if b < -b then -b else b) ∧ (if b > -b then some b else some (-b)) = some t := by
        refine ⟨_, rfl, ?_⟩
        by_cases h : b > -b
        · rw [if_pos h, if_neg (by omega)]
        · rw [if_neg h]
          by_cases h' : b < -b
          · rw [if_pos h']
          · rw [if_neg h']; congr 1; omega
      rw [ht', ← ht]
      have hb : 0 ≤ t ∧ t ≤ 100000 := by rw [ht]; split <;> omega
      clear ht ht'
      have hm := mulb (a := a) (b := t) 100000000 100000 (by omega) (by omega) (by omega) (by omega)
      simp only [Option.bind_some]
      rw [w64 (x := a * t) (by omega) (by omega), sdiv (by omega) (by omega) (by omega) (by omega) (by omega), idiv (by omega) (by omega) (by omega) (by omega) (by omega)]
      simp
    · simp [decide_eq_false c2, spec_PumpPower.j0, impl_PumpPower.j0]
  · simp [decide_eq_false c1, spec_PumpPower.j0, impl_PumpPower.j0]

end Go.Proofs.Ythgokmjcebmgaaa.Pure
