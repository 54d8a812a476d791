/- Plain laws on curves of pumps and lists of lists: what is asked of a curve, what a list's size is. No condition. -/
import Derived.Test.YtcggfmmjjkdgnaaMath
import Derived.Test.YtcggfmmjjkdgnaaMathN
import Derived.Test.YtcggfmmjjkdgnaaMathP
namespace Go.Proofs.YtcggfmmjjkdgnaaM
open Go.RowKit Go.Proofs.YtcggfmmjjkdgnaaW.PrintWords
set_option linter.unusedVariables false
set_option linter.unusedSimpArgs false
def pointOk (c : List (List Int)) (i : Nat) : Bool :=
  decide ((c.getD i []).length = 2) && (decide (0 ≤ (c.getD i []).getD 0 0 ∧ (c.getD i []).getD 0 0 ≤ 100000) && (decide (0 ≤ (c.getD i []).getD 1 0 ∧ (c.getD i []).getD 1 0 ≤ 2000000) &&
    (if i = 0 then decide ((c.getD i []).getD 0 0 = 0) else (decide ((c.getD (i - 1) []).getD 0 0 < (c.getD i []).getD 0 0) && decide ((c.getD i []).getD 1 0 ≤ (c.getD (i - 1) []).getD 1 0)))))
def pointsFrom (c : List (List Int)) : Nat → Nat → Bool
  | 0, _ => true
  | d + 1, i => pointOk c i && pointsFrom c d (i + 1)
theorem points_at (c : List (List Int)) : ∀ (d i : Nat), pointsFrom c d i = true → ∀ j, i ≤ j → j < i + d → pointOk c j = true := by
  intro d
  induction d with
  | zero => intro i _ j h1 h2; omega
  | succ d ih =>
    intro i h j h1 h2
    simp only [pointsFrom, Bool.and_eq_true] at h
    by_cases e : j = i
    · rw [e]; exact h.1
    · exact ih (i + 1) h.2 j (by omega) (by omega)
theorem point_len {c : List (List Int)} {i : Nat} (h : pointOk c i = true) : (c.getD i []).length = 2 := by
  unfold pointOk at h
  simp only [Bool.and_eq_true, decide_eq_true_eq] at h
  exact h.1
theorem point_range {c : List (List Int)} {i : Nat} (h : pointOk c i = true) : (0 ≤ (c.getD i []).getD 0 0 ∧ (c.getD i []).getD 0 0 ≤ 100000) ∧ (0 ≤ (c.getD i []).getD 1 0 ∧ (c.getD i []).getD 1 0 ≤ 2000000) := by
  unfold pointOk at h
  simp only [Bool.and_eq_true, decide_eq_true_eq] at h
  exact ⟨h.2.1, h.2.2.1⟩
def pumpOk (s : ByteArray) (c : List (List Int)) : Bool := nameOk s && (decide (2 ≤ c.length) && (decide (c.length ≤ 8) && pointsFrom c c.length 0))
theorem rd_0 (l : List Int) : rd l 0 = l.getD 0 0 := rfl
theorem rd_1 (l : List Int) : rd l 1 = l.getD 1 0 := rfl
theorem pump_parts {s : ByteArray} {c : List (List Int)} (h : pumpOk s c = true) : 2 ≤ c.length ∧ c.length ≤ 8 ∧ ∀ j, j < c.length → pointOk c j = true := by
  unfold pumpOk at h
  simp only [Bool.and_eq_true, decide_eq_true_eq] at h
  exact ⟨h.2.1, h.2.2.1, fun j hj => points_at c _ 0 h.2.2.2 j (by omega) (by omega)⟩
def sizeSS : List (List Int) → Int
  | [] => 0
  | x :: l => (x.length : Int) + sizeSS l
theorem sizeSS_nonneg (l : List (List Int)) : 0 ≤ sizeSS l := by
  induction l with
  | nil => exact Int.le_refl _
  | cons x l ih => simp only [sizeSS]; omega
theorem sizeSS_drop (l : List (List Int)) (i : Nat) (h : i < l.length) : sizeSS (l.drop i) = ((l.getD i []).length : Int) + sizeSS (l.drop (i + 1)) := by
  rw [List.drop_eq_getElem_cons h]
  simp only [sizeSS, List.getD_eq_getElem?_getD, List.getElem?_eq_getElem h, Option.getD_some]
theorem sizeSS_elem {l : List (List Int)} {m : Int} (h : sizeSS l ≤ m) : ∀ x ∈ l, (x.length : Int) ≤ m := by
  induction l with
  | nil => intro x hx; cases hx
  | cons y l ih =>
    simp only [sizeSS] at h
    have := sizeSS_nonneg l
    intro x hx
    rcases List.mem_cons.mp hx with e | e
    · rw [e]; omega
    · exact ih (by omega) x e
def roomOf (a n : Int) : Int := if a - n < 0 then -1 else a - n
theorem getD_mem {α : Type} {l : List α} {i : Nat} (d : α) (h : i < l.length) : l.getD i d ∈ l := by
  rw [List.getD_eq_getElem?_getD, List.getElem?_eq_getElem h]; exact List.getElem_mem h
end Go.Proofs.YtcggfmmjjkdgnaaM
