/- Names in plain words: when a text is a name; a number on a line through two points. No program in sight. -/
import Derived.Test.YtcggfmmjjkdgnaaWWords
import Derived.Test.YtcggfmmjjkdgnaaMath
namespace Go.Proofs.YtcggfmmjjkdgnaaM
open Go.RowKit Go.Proofs.YtcggfmmjjkdgnaaW.PrintWords
set_option linter.unusedVariables false
set_option linter.unusedSimpArgs false
def nameByte (c : Int) : Bool := (decide (97 ≤ c) && decide (c ≤ 122)) || (decide (48 ≤ c) && decide (c ≤ 57))
def namesFrom (s : ByteArray) : Nat → Int → Bool
  | 0, _ => true
  | d + 1, i => nameByte (bt s i) && namesFrom s d (i + 1)
def nameOk (s : ByteArray) : Bool := decide (1 ≤ s.size) && (decide (s.size ≤ 10) && (decide (97 ≤ bt s 0) && (decide (bt s 0 ≤ 122) && namesFrom s s.size 0)))
theorem size_empty (s : ByteArray) : s.toList = ([] : List UInt8) ↔ s.size = 0 := by
  rw [ByteArray.toList_eq, show s.size = s.data.toList.length from rfl, List.length_eq_zero_iff]
def absI (a : Int) : Int := if a < 0 then -a else a
@[irreducible] def firstTrue (p : Nat → Bool) : Nat → Nat
  | 0 => 0
  | n + 1 => if p n then firstTrue p n else n + 1
-- TABLES (by gentab.py)
theorem rdiv_whole (q d : Int) (hd : 0 < d) : rdiv (q * d) d = q := by
  unfold rdiv rdivp
  rw [if_neg (by omega)]
  by_cases c : q * d < 0
  · rw [if_pos c]
    have e : d - 2 * (q * d) = d + 2 * d * (-q) := by rw [Int.mul_neg, Int.mul_assoc, Int.mul_comm d q]; omega
    rw [e, Int.add_mul_ediv_left _ _ (by omega), Int.ediv_eq_zero_of_lt (by omega) (by omega)]; omega
  · rw [if_neg c]
    have e : 2 * (q * d) + d = d + 2 * d * q := by rw [Int.mul_assoc, Int.mul_comm d q]; omega
    rw [e, Int.add_mul_ediv_left _ _ (by omega), Int.ediv_eq_zero_of_lt (by omega) (by omega)]; omega
end Go.Proofs.YtcggfmmjjkdgnaaM
