/- For every text and every whole number of 64 bits the program's Crc16 is the reference's Crc16. No condition. -/
import Derived.Test.YthgokmjcebmgaaaPFnExactCrc16x1
import Derived.Test.YthgokmjcebmgaaaMath
namespace Go.Proofs.Ythgokmjcebmgaaa.Pure
open Go.RowKit Go.Proofs.Ythgokmjcebmgaaa.PFnExactCrc16 Go.Proofs.YthgokmjcebmgaaaW.PrintWords Go.Proofs.YthgokmjcebmgaaaW.PrintLast Go.Proofs.YthgokmjcebmgaaaW.PrintMore Go.Proofs.YthgokmjcebmgaaaM
set_option linter.unusedSimpArgs false
set_option linter.unusedVariables false
theorem in_f (a lo hi : Int) : spec_l00In.f a lo hi = some (decide (lo ≤ a ∧ a ≤ hi)) := in_both a lo hi
theorem within_f (a lo hi : Int) : impl_within.f a lo hi = some (decide (lo ≤ a ∧ a ≤ hi)) := in_both a lo hi
theorem crc_same (s : ByteArray) (hs : s.size ≤ 140737488351232) : ∀ k, (∀ x i, 0 ≤ i → spec_l01Crc.l0 k s x i = impl_Crc16.l0 k s x (s.size : Int) i) ∧ (∀ x i j, 0 ≤ i → i < (s.size : Int) → spec_l01Crc.l1 k s x i j = impl_Crc16.l1 k s x (s.size : Int) i j) := by
  intro k
  induction k with
  | zero => exact ⟨fun _ _ _ => rfl, fun _ _ _ _ _ => rfl⟩
  | succ k ih =>
    constructor
    · intro x i h0
      simp only [spec_l01Crc.l0, impl_Crc16.l0]
      by_cases h : i < (s.size : Int)
      · rw [if_pos h, if_pos h, if_pos h0, if_pos h0, if_pos h]
        exact ih.2 _ _ _ h0 h
      · rw [if_neg h, if_neg h]
    · intro x i j h0 h
      simp only [spec_l01Crc.l1, impl_Crc16.l1]
      rw [ih.2 _ _ _ h0 h, ih.2 _ _ _ h0 h, ih.1 _ _ (by rw [w64 (by omega) (by omega)]; omega)]
theorem crc_inner (s : ByteArray) : ∀ (d : Nat) (x i j : Int), 0 ≤ j → 8 - j = d → ∃ x', ∀ k, spec_l01Crc.l1 (k + d + 1) s x i j = spec_l01Crc.l0 k s x' (wrap64 (i + 1)) := by
  intro d
  induction d with
  | zero => exact fun x i j h0 hd => ⟨x, fun k => by simp only [spec_l01Crc.l1]; rw [if_neg (by omega)]⟩
  | succ d ih =>
    intro x i j h0 hd
    by_cases c : wrap64 (x * 2) > 65535
    · obtain ⟨x', h⟩ := ih (Go.bits .xor .i64 (Go.bits .and .i64 (wrap64 (x * 2)) 65535) 4129) i (j + 1) (by omega) (by omega)
      refine ⟨x', fun k => ?_⟩
      show spec_l01Crc.l1 ((k + d + 1) + 1) s x i j = _
      simp only [spec_l01Crc.l1]
      rw [if_pos (by omega), if_pos c, w64 (x := j + 1) (by omega) (by omega)]
      exact h k
    · obtain ⟨x', h⟩ := ih (wrap64 (x * 2)) i (j + 1) (by omega) (by omega)
      refine ⟨x', fun k => ?_⟩
      show spec_l01Crc.l1 ((k + d + 1) + 1) s x i j = _
      simp only [spec_l01Crc.l1]
      rw [if_pos (by omega), if_neg c, w64 (x := j + 1) (by omega) (by omega)]
      exact h k
theorem crc_ends (s : ByteArray) (hs : s.size ≤ 140737488351232) : ∀ (d : Nat) (x i : Int), 0 ≤ i → (s.size : Int) - i = d → ∃ r, spec_l01Crc.l0 (10 * d + 1) s x i = some r := by
  intro d
  induction d with
  | zero => exact fun x i h0 hd => ⟨x, by simp only [spec_l01Crc.l0]; rw [if_neg (by omega)]⟩
  | succ d ih =>
    intro x i h0 hd
    obtain ⟨x', h⟩ := crc_inner s 8 (Go.bits .xor .i64 x (wrap64 ((wrap64 (bt s i)) * 256))) i 0 (by omega) (by omega)
    obtain ⟨r, hr⟩ := ih x' (i + 1) (by omega) (by omega)
    refine ⟨r, ?_⟩
    show spec_l01Crc.l0 ((10 * d + 1 + 8 + 1) + 1) s x i = some r
    simp only [spec_l01Crc.l0]
    rw [if_pos (by omega), if_pos h0, h, w64 (x := i + 1) (by omega) (by omega)]
    exact hr
theorem FnExactCrc16 : laws_FnExactCrc16.Pure := by
  intro s a hs w1
  obtain ⟨r, hr⟩ := crc_ends s hs s.size a 0 (by omega) (by omega)
  refine ⟨10 * s.size + 1, ?_⟩
  unfold laws_FnExactCrc16.f spec_Crc16.f impl_Crc16.f spec_l01Crc.f
  rw [in_f, within_f, ← (crc_same s hs _).1 a 0 (by omega), hr]
  split
  · rfl
  · by_cases c : 0 ≤ a ∧ a ≤ 65535
    · simp [c]
    · simp only [Option.bind_some, decide_eq_false c]; simp

end Go.Proofs.Ythgokmjcebmgaaa.Pure
