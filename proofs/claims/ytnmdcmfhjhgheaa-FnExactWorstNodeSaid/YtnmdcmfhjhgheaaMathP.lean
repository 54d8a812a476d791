/- The drop of a pipe in plain words: its bounds, and how it grows. No program in sight. -/
import Derived.Test.YtnmdcmfhjhgheaaMathN
namespace Go.Proofs.YtnmdcmfhjhgheaaM
open Go.RowKit Go.Proofs.YtnmdcmfhjhgheaaW.PrintWords
set_option linter.unusedVariables false
set_option linter.unusedSimpArgs false
def dropI (l d q : Int) : Int := rdiv (l * 16200 * q * absI q) (d * d * d * d * d)
theorem absI_le {q Q : Int} (h : -Q ≤ q) (h' : q ≤ Q) : 0 ≤ absI q ∧ absI q ≤ Q := by unfold absI; split <;> omega
theorem drop_num {l q : Int} (h : 1 ≤ l) (h' : l ≤ 10000) (hq : -100000 ≤ q) (hq' : q ≤ 100000) : (-16200000000000 ≤ l * 16200 * q ∧ l * 16200 * q ≤ 16200000000000) ∧ -1620000000000000000 ≤ l * 16200 * q * absI q ∧ l * 16200 * q * absI q ≤ 1620000000000000000 := by
  have h1 := mulb (a := l * 16200) (b := q) 162000000 100000 (by omega) (by omega) (by omega) (by omega)
  have hs := absI_le hq hq'
  have h2 := mulb (a := l * 16200 * q) (b := absI q) 16200000000000 100000 (by omega) (by omega) (by omega) (by omega)
  omega
theorem drop_den {d : Int} (h : 20 ≤ d) (h' : d ≤ 1000) : (1 ≤ d * d ∧ d * d ≤ 1000000) ∧ (1 ≤ d * d * d ∧ d * d * d ≤ 1000000000) ∧ (1 ≤ d * d * d * d ∧ d * d * d * d ≤ 1000000000000) ∧ (1 ≤ d * d * d * d * d ∧ d * d * d * d * d ≤ 1000000000000000) := by
  have p1 : 0 < d * d := Int.mul_pos (by omega) (by omega)
  have p2 : 0 < d * d * d := Int.mul_pos p1 (by omega)
  have p3 : 0 < d * d * d * d := Int.mul_pos p2 (by omega)
  have p4 : 0 < d * d * d * d * d := Int.mul_pos p3 (by omega)
  have h1 := mulb (a := d) (b := d) 1000 1000 (by omega) (by omega) (by omega) (by omega)
  have h2 := mulb (a := d * d) (b := d) 1000000 1000 (by omega) (by omega) (by omega) (by omega)
  have h3 := mulb (a := d * d * d) (b := d) 1000000000 1000 (by omega) (by omega) (by omega) (by omega)
  have h4 := mulb (a := d * d * d * d) (b := d) 1000000000000 1000 (by omega) (by omega) (by omega) (by omega)
  omega
theorem drop_num_w {l q : Int} (h : 1 ≤ l) (h' : l ≤ 10000) (hq : -100000 ≤ q) (hq' : q ≤ 100000) : wrap64 ((wrap64 ((wrap64 (l * 16200)) * q)) * absI q) = l * 16200 * q * absI q := by
  have h1 := drop_num h h' hq hq'
  rw [w64 (x := l * 16200) (by omega) (by omega), w64 (x := l * 16200 * q) (by omega) (by omega), w64 (by omega) (by omega)]
theorem drop_den_w {d : Int} (h : 20 ≤ d) (h' : d ≤ 1000) : wrap64 ((wrap64 ((wrap64 ((wrap64 (d * d)) * d)) * d)) * d) = d * d * d * d * d := by
  have h1 := drop_den h h'
  rw [w64 (x := d * d) (by omega) (by omega), w64 (x := d * d * d) (by omega) (by omega), w64 (x := d * d * d * d) (by omega) (by omega), w64 (by omega) (by omega)]
theorem rdiv_neg {a d : Int} (hd : 0 < d) : rdiv (-a) d = -rdiv a d := by
  unfold rdiv rdivp
  simp only [if_neg (show ¬ d < 0 by omega)]
  by_cases c : a < 0
  · rw [if_pos c, if_neg (by omega), Int.neg_neg]
    congr 1
    omega
  · rw [if_neg c]
    by_cases c' : a = 0
    · subst c'
      rw [if_neg (by omega)]
      have : (2 * 0 + d) / (2 * d) = 0 := Int.ediv_eq_zero_of_lt (by omega) (by omega)
      simp only [Int.neg_zero, this]
    · rw [if_pos (by omega)]
      congr 2
      omega
theorem drop_neg {l d q : Int} (hd : 20 ≤ d) (hd' : d ≤ 1000) : dropI l d (-q) = -dropI l d q := by
  unfold dropI
  rw [← rdiv_neg (by have := drop_den hd hd'; omega)]
  congr 1
  have e : absI (-q) = absI q := by unfold absI; split <;> split <;> omega
  rw [e, Int.mul_neg, Int.neg_mul]
theorem drop_bound {l d q : Int} (h : 1 ≤ l) (h' : l ≤ 10000) (hq : -100000 ≤ q) (hq' : q ≤ 100000) : -1620000000000000001 ≤ dropI l d q ∧ dropI l d q ≤ 1620000000000000001 := by
  have h1 := drop_num h h' hq hq'
  have h2 := rdiv_bound (l * 16200 * q * absI q) (d * d * d * d * d)
  unfold dropI
  omega
theorem pipeOk_range {s : ByteArray} {f t l d x : Int} (h : pipeOk s f t l d x = true) : (0 ≤ f ∧ f ≤ 15) ∧ (0 ≤ t ∧ t ≤ 15) ∧ f ≠ t ∧ (1 ≤ l ∧ l ≤ 10000) ∧ (20 ≤ d ∧ d ≤ 1000) ∧ (0 ≤ x ∧ x ≤ 5000) := by
  simp only [pipeOk, Bool.and_eq_true, decide_eq_true_eq, Bool.not_eq_true', decide_eq_false_iff_not] at h
  exact ⟨h.2.1, h.2.2.1, h.2.2.2.1, h.2.2.2.2.1, h.2.2.2.2.2.1, h.2.2.2.2.2.2⟩
theorem drop_zero {l d : Int} (hd : 20 ≤ d) (hd' : d ≤ 1000) : dropI l d 0 = 0 := by
  unfold dropI
  have := rdiv_whole 0 (d * d * d * d * d) (by have := drop_den hd hd'; omega)
  simp only [Int.mul_zero, Int.zero_mul] at this ⊢
  exact this
end Go.Proofs.YtnmdcmfhjhgheaaM
