/- Plain facts on whole numbers (no program in sight): the nearest quotient as the reference and as the program reckon it; wraps within the bounds; products. -/
import Derived.OpenShut
namespace Go.Proofs.YtcggfmmjjkdgnaaM
open Go.RowKit

theorem w64 {x : Int} (h1 : -9223372036854775808 ≤ x) (h2 : x ≤ 9223372036854775807) : wrap64 x = x := by
  unfold wrap64; omega
def rdivp (a b : Int) : Int := if a < 0 then -((b - 2 * a) / (2 * b)) else (2 * a + b) / (2 * b)
def rdiv (a b : Int) : Int := if b < 0 then rdivp (-a) (-b) else rdivp a b

theorem half_up (A B Q R : Int) (hB : 0 < B) (h : A = B * Q + R) (h0 : 0 ≤ R) (h1 : R < B) : (2 * A + B) / (2 * B) = if R ≥ B - R then Q + 1 else Q := by
  have e : 2 * A + B = (2 * R + B) + 2 * B * Q := by rw [h, Int.mul_add, Int.mul_assoc]; omega
  rw [e, Int.add_mul_ediv_left _ _ (by omega)]
  split
  · have : 2 * R + B = (2 * R - B) + 2 * B * 1 := by omega
    rw [this, Int.add_mul_ediv_left _ _ (by omega), Int.ediv_eq_zero_of_lt (by omega) (by omega)]; omega
  · rw [Int.ediv_eq_zero_of_lt (by omega) (by omega)]; omega

theorem up_range (A B : Int) (hB : 0 < B) (hA : 0 ≤ A) : 0 ≤ (2 * A + B) / (2 * B) ∧ (2 * A + B) / (2 * B) ≤ A + 1 := by
  constructor
  · exact Int.ediv_nonneg (by omega) (by omega)
  · have : (2 * A + B) / (2 * B) < A + 2 := Int.ediv_lt_of_lt_mul (by omega) (by
      have : A ≤ A * B := by have := Int.mul_le_mul_of_nonneg_left (show (1 : Int) ≤ B by omega) hA; omega
      have e : (A + 2) * (2 * B) = 2 * (A * B) + 4 * B := by rw [Int.add_mul, Int.mul_left_comm]; omega
      omega)
    omega

theorem spec_div (a b : Int) (hb : b ≠ 0) (a1 : -2305843009213693952 ≤ a) (a2 : a ≤ 2305843009213693952) (b1 : -2305843009213693952 ≤ b) (b2 : b ≤ 2305843009213693952) :
    (if b < 0 then (if (wrap64 (-a)) < 0 then (if (wrap64 (2 * (wrap64 (-b)))) = 0 then (none) else (some (wrap64 (-(wrap64 (Int.tdiv (wrap64 ((wrap64 (-b)) - (wrap64 (2 * (wrap64 (-a)))))) (wrap64 (2 * (wrap64 (-b)))))))))) else (if (wrap64 (2 * (wrap64 (-b)))) = 0 then (none) else (some (wrap64 (Int.tdiv (wrap64 ((wrap64 (2 * (wrap64 (-a)))) + (wrap64 (-b)))) (wrap64 (2 * (wrap64 (-b))))))))) else (if a < 0 then (if (wrap64 (2 * b)) = 0 then (none) else (some (wrap64 (-(wrap64 (Int.tdiv (wrap64 (b - (wrap64 (2 * a)))) (wrap64 (2 * b)))))))) else (if (wrap64 (2 * b)) = 0 then (none) else (some (wrap64 (Int.tdiv (wrap64 ((wrap64 (2 * a)) + b)) (wrap64 (2 * b)))))))) = some (rdiv a b) := by
  rw [w64 (x := -a) (by omega) (by omega), w64 (x := -b) (by omega) (by omega), w64 (x := 2 * -b) (by omega) (by omega), w64 (x := 2 * -a) (by omega) (by omega), w64 (x := 2 * a) (by omega) (by omega), w64 (x := 2 * b) (by omega) (by omega), w64 (x := -b - 2 * -a) (by omega) (by omega), w64 (x := b - 2 * a) (by omega) (by omega), w64 (x := 2 * -a + -b) (by omega) (by omega), w64 (x := 2 * a + b) (by omega) (by omega)]
  unfold rdiv rdivp
  by_cases h : b < 0
  · rw [if_pos h, if_pos h]
    by_cases h' : -a < 0
    · have e : -b - 2 * -a = 2 * a + -b := by omega
      have := up_range a (-b) (by omega) (by omega)
      rw [if_pos h', if_pos h', if_neg (by omega), Int.tdiv_eq_ediv_of_nonneg (by omega), e, w64 (x := _ / _) (by omega) (by omega), w64 (by omega) (by omega)]
    · have := up_range (-a) (-b) (by omega) (by omega)
      rw [if_neg h', if_neg h', if_neg (by omega), Int.tdiv_eq_ediv_of_nonneg (by omega), w64 (by omega) (by omega)]
  · rw [if_neg h, if_neg h]
    by_cases h' : a < 0
    · have e : b - 2 * a = 2 * -a + b := by omega
      have := up_range (-a) b (by omega) (by omega)
      rw [if_pos h', if_pos h', if_neg (by omega), Int.tdiv_eq_ediv_of_nonneg (by omega), e, w64 (x := _ / _) (by omega) (by omega), w64 (by omega) (by omega)]
    · have := up_range a b (by omega) (by omega)
      rw [if_neg h', if_neg h', if_neg (by omega), Int.tdiv_eq_ediv_of_nonneg (by omega), w64 (by omega) (by omega)]

theorem rdivp_nonneg (A B : Int) (hA : 0 ≤ A) (hB : 0 < B) : rdivp A B = if A % B ≥ B - A % B then A / B + 1 else A / B := by
  unfold rdivp
  rw [if_neg (by omega)]
  exact half_up A B (A / B) (A % B) hB (Int.mul_ediv_add_emod A B).symm (Int.emod_nonneg _ (by omega)) (Int.emod_lt_of_pos _ hB)
theorem rdivp_neg (A B : Int) (hA : 0 < A) : rdivp (-A) B = -rdivp A B := by
  unfold rdivp
  rw [if_pos (by omega), if_neg (by omega)]
  have : B - 2 * -A = 2 * A + B := by omega
  rw [this]
theorem tdiv_bound (a b : Int) (a1 : -2305843009213693952 ≤ a) (a2 : a ≤ 2305843009213693952) : -2305843009213693952 ≤ Int.tdiv a b ∧ Int.tdiv a b ≤ 2305843009213693952 := by
  have := Int.natAbs_tdiv_le_natAbs a b
  omega

theorem impl_div (a b : Int) (hb : b ≠ 0) (a1 : -2305843009213693952 ≤ a) (a2 : a ≤ 2305843009213693952) (b1 : -2305843009213693952 ≤ b) (b2 : b ≤ 2305843009213693952) (t t' : Int)
    (ht : t = if Int.tmod a b < -Int.tmod a b then -Int.tmod a b else Int.tmod a b) (ht' : t' = if b < -b then -b else b) :
    (if t ≥ (wrap64 (t' - t)) then (if ((decide (a < 0)) == (decide (b < 0))) = true then (some (wrap64 ((wrap64 (Int.tdiv a b)) + 1))) else (some (wrap64 ((wrap64 (Int.tdiv a b)) - 1)))) else (some (wrap64 (Int.tdiv a b)))) = some (rdiv a b) := by
  have hq := tdiv_bound a b a1 a2
  rw [w64 (x := Int.tdiv a b) (by omega) (by omega), w64 (x := Int.tdiv a b + 1) (by omega) (by omega), w64 (x := Int.tdiv a b - 1) (by omega) (by omega)]
  have hm : Int.natAbs (Int.tmod a b) < Int.natAbs b := by rw [Int.natAbs_tmod]; exact Nat.mod_lt _ (by omega)
  have e1 : t = Int.natAbs (Int.tmod a b) := by rw [ht]; split <;> omega
  have e2 : t' = Int.natAbs b := by rw [ht']; split <;> omega
  rw [w64 (x := t' - t) (by omega) (by omega)]
  clear ht ht'
  subst e1 e2
  unfold rdiv
  by_cases h : b < 0
  · rw [if_pos h]
    obtain ⟨B, rfl⟩ : ∃ B, b = -B := ⟨-b, by omega⟩
    rw [Int.neg_neg, Int.tdiv_neg, Int.tmod_neg]
    by_cases h' : a < 0
    · obtain ⟨A, rfl⟩ : ∃ A, a = -A := ⟨-a, by omega⟩
      rw [Int.neg_neg, Int.neg_tdiv, Int.neg_tmod, Int.tdiv_eq_ediv_of_nonneg (by omega), Int.tmod_eq_emod_of_nonneg (by omega), rdivp_nonneg A B (by omega) (by omega)]
      have := Int.emod_nonneg A (show B ≠ 0 by omega)
      have e : (((-(A % B)).natAbs : Nat) : Int) = A % B := by omega
      have e' : (((-B).natAbs : Nat) : Int) = B := by omega
      rw [e, e']
      simp only [h, h', decide_true, beq_self_eq_true, if_true, Int.neg_neg]
      split <;> rfl
    · rw [Int.tdiv_eq_ediv_of_nonneg (by omega), Int.tmod_eq_emod_of_nonneg (by omega)]
      have := Int.emod_nonneg a (show B ≠ 0 by omega)
      have e : (((a % B).natAbs : Nat) : Int) = a % B := by omega
      have e' : (((-B).natAbs : Nat) : Int) = B := by omega
      rw [e, e']
      have hd : (decide (a < 0) == decide (-B < 0)) = false := by rw [decide_eq_false h', decide_eq_true h]; rfl
      rw [hd]
      by_cases h0 : a = 0
      · subst h0
        have : rdivp (-0) B = 0 := by rw [show (-0 : Int) = 0 from rfl, rdivp_nonneg 0 B (by omega) (by omega)]; simp; omega
        rw [this]
        simp
        omega
      · rw [rdivp_neg a B (by omega), rdivp_nonneg a B (by omega) (by omega)]
        simp only [Bool.false_eq_true, if_false]
        split <;> congr 1 <;> omega
  · rw [if_neg h]
    by_cases h' : a < 0
    · obtain ⟨A, rfl⟩ : ∃ A, a = -A := ⟨-a, by omega⟩
      rw [Int.neg_tdiv, Int.neg_tmod, Int.tdiv_eq_ediv_of_nonneg (by omega), Int.tmod_eq_emod_of_nonneg (by omega), rdivp_neg A b (by omega), rdivp_nonneg A b (by omega) (by omega)]
      have := Int.emod_nonneg A (show b ≠ 0 by omega)
      have e : (((-(A % b)).natAbs : Nat) : Int) = A % b := by omega
      have e' : ((b.natAbs : Nat) : Int) = b := by omega
      rw [e, e']
      have hd : (decide (-A < 0) == decide (b < 0)) = false := by rw [decide_eq_true h', decide_eq_false h]; rfl
      rw [hd]
      simp only [Bool.false_eq_true, if_false]
      split <;> congr 1 <;> omega
    · rw [Int.tdiv_eq_ediv_of_nonneg (by omega), Int.tmod_eq_emod_of_nonneg (by omega), rdivp_nonneg a b (by omega) (by omega)]
      have := Int.emod_nonneg a (show b ≠ 0 by omega)
      have e : (((a % b).natAbs : Nat) : Int) = a % b := by omega
      have e' : ((b.natAbs : Nat) : Int) = b := by omega
      rw [e, e']
      have hd : (decide (a < 0) == decide (b < 0)) = true := by simp [h, h']
      rw [hd]
      simp only [if_true]
      split <;> rfl

theorem mulb {a b : Int} (A B : Int) (h1 : -A ≤ a) (h2 : a ≤ A) (h3 : -B ≤ b) (h4 : b ≤ B) : -(A * B) ≤ a * b ∧ a * b ≤ A * B := by
  have hA : (a.natAbs : Int) ≤ A := by omega
  have hB : (b.natAbs : Int) ≤ B := by omega
  have h := Int.mul_le_mul hA hB (by omega) (by omega)
  have e : ((a * b).natAbs : Int) = (a.natAbs : Int) * (b.natAbs : Int) := by rw [Int.natAbs_mul]; rfl
  omega
theorem in_both (a lo hi : Int) : (if a ≥ lo then some (decide (a ≤ hi)) else some false) = some (decide (lo ≤ a ∧ a ≤ hi)) := by
  by_cases h : lo ≤ a
  · rw [if_pos h]; simp [h]
  · rw [if_neg h]; simp [h]
end Go.Proofs.YtcggfmmjjkdgnaaM
