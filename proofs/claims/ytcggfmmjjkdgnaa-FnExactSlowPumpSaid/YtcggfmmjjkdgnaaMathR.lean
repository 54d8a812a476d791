/- Plain laws on the order of byte lists, on marked lists, and on networks' parts. No program in sight. No condition. -/
import Derived.Test.YtcggfmmjjkdgnaaMath
import Derived.Test.YtcggfmmjjkdgnaaMathN
import Derived.Test.YtcggfmmjjkdgnaaMathP
import Derived.Test.YtcggfmmjjkdgnaaMathQ
namespace Go.Proofs.YtcggfmmjjkdgnaaM
open Go.RowKit Go.Proofs.YtcggfmmjjkdgnaaW.PrintWords
set_option linter.unusedVariables false
set_option linter.unusedSimpArgs false
abbrev Y : Bool := true
abbrev J : Bool := false
abbrev rA := @Kd.R_alloc
abbrev rN := @Kd.R_drewN
abbrev rW := @Kd.R_drew
abbrev bN := @blk_drewN
abbrev bW := @blk_drew
abbrev bA := @blk_alloc
abbrev wA := @below_alloc
abbrev wN := @pw_below_drewN
abbrev wD := @below_drew1
abbrev wS := @below_set
theorem pU (a : Act) (d : Nat) (v : Value) : a.put (some d) v = { tmps := a.tmps.setIfInBounds d v, defers := a.defers } := rfl
theorem pN (a : Act) (v : Value) : a.put none v = a := rfl
theorem sB {α : Type} (l : List α) (i : Nat) (a : α) : l.toArray.setIfInBounds i a = (l.set i a).toArray := List.setIfInBounds_toArray l i a
theorem sZ {α : Type} (x : α) (xs : List α) (a : α) : (x :: xs).set 0 a = a :: xs := List.set_cons_zero
theorem sS {α : Type} (x : α) (xs : List α) (n : Nat) (a : α) : (x :: xs).set (n + 1) a = x :: xs.set n a := List.set_cons_succ
theorem take_mid {α : Type} : ∀ (A B : List α) (a : α), (A ++ a :: B).take (A.length + 1) = A ++ [a]
  | [], B, a => by simp
  | x :: A, B, a => by
    have := take_mid A B a
    simp only [List.cons_append, List.length_cons, List.take_succ_cons, this]
theorem take_set {α : Type} (l : List α) (i : Nat) (h : i < l.length) (a : α) : (l.set i a).take (i + 1) = l.take i ++ [a] := by
  have e : l.set i a = l.take i ++ a :: l.drop (i + 1) := by rw [List.set_eq_take_append_cons_drop, if_pos h]
  have hl : (l.take i).length = i := by simp; omega
  have := take_mid (l.take i) (l.drop (i + 1)) a
  rw [hl] at this
  rw [e, this]
def marks : Int → Nat → List Int
  | _, 0 => []
  | a, d + 1 => a :: marks (a + 1) d
theorem marks_length (a : Int) (d : Nat) : (marks a d).length = d := by
  induction d generalizing a with
  | zero => rfl
  | succ d ih => simp [marks, ih]
def heldI : List Int → Int → Int
  | [], a => a
  | x :: l, a => if x = a then heldI l (a + 1) else -1
theorem held_marks (a : Int) (d : Nat) : heldI (marks a d) a = a + d := by
  induction d generalizing a with
  | zero => simp [marks, heldI]
  | succ d ih => simp only [marks, heldI, if_pos, ih]; push_cast; omega
end Go.Proofs.YtcggfmmjjkdgnaaM
