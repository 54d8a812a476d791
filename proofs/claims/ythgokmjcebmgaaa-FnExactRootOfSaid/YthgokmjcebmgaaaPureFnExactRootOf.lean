/- For every whole number of 64 bits the program's RootOf is the reference's RootOf. No condition. -/
import Derived.Test.YthgokmjcebmgaaaPFnExactRootOfx1
import Derived.Test.YthgokmjcebmgaaaMath
namespace Go.Proofs.Ythgokmjcebmgaaa.Pure
open Go.RowKit Go.Proofs.Ythgokmjcebmgaaa.PFnExactRootOf Go.Proofs.YthgokmjcebmgaaaW.PrintWords Go.Proofs.YthgokmjcebmgaaaW.PrintLast Go.Proofs.YthgokmjcebmgaaaW.PrintMore Go.Proofs.YthgokmjcebmgaaaM
set_option linter.unusedSimpArgs false
set_option linter.unusedVariables false
theorem root_loop (n : Int) (h0 : 0 ≤ n) : ∀ (d k : Nat) (lo hi : Int), 0 ≤ lo → lo ≤ hi → hi ≤ 3037000499 → hi - lo ≤ d → d < k → lo * lo ≤ n → (hi < 3037000499 → n < (hi + 1) * (hi + 1)) →
    ∃ r : Int, spec_l01Root.l0 k n lo hi = some r ∧ 0 ≤ r ∧ r ≤ 3037000499 ∧ r * r ≤ n ∧ (r < 3037000499 → n < (r + 1) * (r + 1)) := by
  intro d
  induction d with
  | zero =>
    intro k lo hi h1 h2 h3 hd hk hl hh
    obtain ⟨k, rfl⟩ : ∃ m, k = m + 1 := ⟨k - 1, by omega⟩
    obtain rfl : hi = lo := by omega
    exact ⟨hi, by simp only [spec_l01Root.l0]; rw [if_neg (by omega)], h1, h3, hl, hh⟩
  | succ d ih =>
    intro k lo hi h1 h2 h3 hd hk hl hh
    obtain ⟨k, rfl⟩ : ∃ m, k = m + 1 := ⟨k - 1, by omega⟩
    by_cases hlt : lo < hi
    · simp only [spec_l01Root.l0]
      rw [if_pos hlt, w64 (x := lo + hi) (by omega) (by omega), w64 (x := lo + hi + 1) (by omega) (by omega), Int.tdiv_eq_ediv_of_nonneg (by omega), w64 (x := (lo + hi + 1) / 2) (by omega) (by omega)]
      generalize hm : (lo + hi + 1) / 2 = m
      have hm1 : lo < m ∧ m ≤ hi := by omega
      have hmm := mulb (a := m) (b := m) 3037000499 3037000499 (by omega) (by omega) (by omega) (by omega)
      rw [w64 (x := m * m) (by omega) (by omega), w64 (x := m - 1) (by omega) (by omega)]
      by_cases c : m * m ≤ n
      · rw [if_pos c]
        exact ih k m hi (by omega) (by omega) h3 (by omega) (by omega) c hh
      · rw [if_neg c]
        exact ih k lo (m - 1) (by omega) (by omega) (by omega) (by omega) (by omega) hl (fun _ => by rw [show m - 1 + 1 = m by omega]; omega)
    · obtain rfl : hi = lo := by omega
      exact ⟨hi, by simp only [spec_l01Root.l0]; rw [if_neg (by omega)], h1, h3, hl, hh⟩
theorem root_neg (n : Int) (h0 : n < 0) : ∀ (d k : Nat) (hi : Int), 0 ≤ hi → hi ≤ 3037000499 → hi ≤ d → d < k → spec_l01Root.l0 k n 0 hi = some 0 := by
  intro d
  induction d with
  | zero =>
    intro k hi h1 h3 hd hk
    obtain ⟨k, rfl⟩ : ∃ m, k = m + 1 := ⟨k - 1, by omega⟩
    simp only [spec_l01Root.l0]; rw [if_neg (by omega)]
  | succ d ih =>
    intro k hi h1 h3 hd hk
    obtain ⟨k, rfl⟩ : ∃ m, k = m + 1 := ⟨k - 1, by omega⟩
    by_cases hlt : 0 < hi
    · simp only [spec_l01Root.l0]
      rw [if_pos hlt, w64 (x := 0 + hi) (by omega) (by omega), w64 (x := 0 + hi + 1) (by omega) (by omega), Int.tdiv_eq_ediv_of_nonneg (by omega), w64 (x := (0 + hi + 1) / 2) (by omega) (by omega)]
      generalize hm : (0 + hi + 1) / 2 = m
      have hm1 : 0 < m ∧ m ≤ hi := by omega
      have hmm := mulb (a := m) (b := m) 3037000499 3037000499 (by omega) (by omega) (by omega) (by omega)
      have h5 := Int.mul_nonneg (show 0 ≤ m by omega) (show 0 ≤ m by omega)
      rw [w64 (x := m * m) (by omega) (by omega), w64 (x := m - 1) (by omega) (by omega), if_neg (by omega)]
      exact ih k (m - 1) (by omega) (by omega) (by omega) (by omega)
    · simp only [spec_l01Root.l0]; rw [if_neg (by omega)]
theorem FnExactRootOf : laws_FnExactRootOf.Pure := by
  intro n w0
  refine ⟨3037000500, ?_⟩
  unfold laws_FnExactRootOf.f spec_RootOf.f spec_l01Root.f impl_RootOf.f
  by_cases c : n < 0
  · rw [root_neg n c 3037000499 3037000500 3037000499 (by omega) (by omega) (by omega) (by omega), if_pos c]
    simp
  · obtain ⟨r, hr, h1, h2, h3, h4⟩ := root_loop n (by omega) 3037000499 3037000500 0 3037000499 (by omega) (by omega) (by omega) (by omega) (by omega) (by omega) (by omega)
    rw [hr, if_neg c]
    have e : rootOf n = r := by
      obtain ⟨m, rfl⟩ := Int.eq_ofNat_of_zero_le h1
      unfold rootOf
      rw [firstTrue_unique (rootP n) 3037000499 m (by omega) ?_ ?_]
      · intro t ht
        have := Int.mul_le_mul (show (t : Int) + 1 ≤ (m : Int) by omega) (show (t : Int) + 1 ≤ (m : Int) by omega) (by omega) (by omega)
        exact decide_eq_false (by omega)
      · intro t ht1 ht2
        have := Int.mul_le_mul (show (m : Int) + 1 ≤ (t : Int) + 1 by omega) (show (m : Int) + 1 ≤ (t : Int) + 1 by omega) (by omega) (by omega)
        have := h4 (by omega)
        exact decide_eq_true (by omega)
    rw [e]
    simp

end Go.Proofs.Ythgokmjcebmgaaa.Pure
