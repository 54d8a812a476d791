/- The drop of a pipe in plain words: its bounds, and how it grows. No program in sight. -/
import Derived.Test.YtcggfmmjjkdgnaaMathN
namespace Go.Proofs.YtcggfmmjjkdgnaaM
open Go.RowKit Go.Proofs.YtcggfmmjjkdgnaaW.PrintWords
set_option linter.unusedVariables false
set_option linter.unusedSimpArgs false
def dropI (l d q : Int) : Int := rdiv (l * 16200 * q * absI q) (d * d * d * d * d)
theorem drop_den {d : Int} (h : 20 ≤ d) (h' : d ≤ 1000) : (1 ≤ d * d ∧ d * d ≤ 1000000) ∧ (1 ≤ d * d * d ∧ d * d * d ≤ 1000000000) ∧ (1 ≤ d * d * d * d ∧ d * d * d * d ≤ 1000000000000) ∧ (1 ≤ d * d * d * d * d ∧ d * d * d * d * d ≤ 1000000000000000) := by
  have p1 : 0 < d * d := Int.mul_pos (by omega) (by omega)
  have p2 : 0 < d * d * d := Int.mul_pos p1 (by omega)
  have p3 : 0 < d * d * d * d := Int.mul_pos p2 (by omega)
  have p4 : 0 < d * d * d * d * d := Int.mul_pos p3 (by omega)
  have h1 := mulb (a := d) (b := d) 1000 1000 (by omega) (by omega) (by omega) (by omega)
  have h2 := mulb (a := d * d) (b := d) 1000000 1000 (by omega) (by omega) (by omega) (by omega)
  have h3 := mulb (a := d * d * d) (b := d) 1000000000 1000 (by omega) (by omega) (by omega) (by omega)
  have h4 := mulb (a := d * d * d * d) (b := d) 1000000000000 1000 (by omega) (by omega) (by omega) (by omega)
  omega
theorem drop_zero {l d : Int} (hd : 20 ≤ d) (hd' : d ≤ 1000) : dropI l d 0 = 0 := by
  unfold dropI
  have := rdiv_whole 0 (d * d * d * d * d) (by have := drop_den hd hd'; omega)
  simp only [Int.mul_zero, Int.zero_mul] at this ⊢
  exact this
end Go.Proofs.YtcggfmmjjkdgnaaM
